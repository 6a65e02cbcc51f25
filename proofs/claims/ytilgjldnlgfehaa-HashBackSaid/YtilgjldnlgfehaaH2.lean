import Derived.Test.YtilgjldnlgfehaaH1
import Derived.Test.YtilgjldnlgfehaaHsW
import Derived.Test.YtilgjldnlgfehaaSepO
import Derived.Deep.RegionHeld3
import Derived.Outline
import Derived.IntWalk
namespace Go.Proofs.Ytilgjldnlgfehaa
set_option linter.unusedVariables false
set_option linter.unusedSimpArgs false
open Go.RowKit Hp
attribute [local irreducible] Go.Calls
set_option maxHeartbeats 4000000
set_option maxRecDepth 100000
theorem loadedB (A : Addr) : loadVar 5 A = loadVarH 5 A := rfl
theorem loadedW (A : Addr) : loadVar 35 A = loadVarH 35 A := rfl
theorem storedW (A : Addr) (v : Value) : storeVar 35 A v = storeVarH 35 A v := rfl
theorem conv8 (b : UInt8) (w : World) : (convert 5 35 (.int .u8 (b.toNat : Int))).run Try.prog w = .ok (.int .u32 (wI (BitVec.ofNat 32 b.toNat))) w := by
  have hb := b.toNat_lt
  have h : IntKind.u32.wrap (b.toNat : Int) = wI (BitVec.ofNat 32 b.toNat) := by
    rw [wrap32, wI, BitVec.toNat_ofNat]
  unfold convert
  rw [Sem.run_bind, run_underlying (show Try.prog.underlying 5 = some (.int .u8) by kernel_rfl), Result.andThen_ok, Sem.run_bind, run_underlying (show Try.prog.underlying 35 = some (.int .u32) by kernel_rfl), Result.andThen_ok]
  show (pure (Value.int .u32 (IntKind.u32.wrap (b.toNat : Int))) : Sem Value).run Try.prog w = _
  rw [h]
  rfl
theorem ldOM {w0 w : World} {M : List Nat} {L : List HA} {T : TypeId} {A : Addr} {v : Value} (hst : St w0 M w L) [ht : TyS Try.prog T] (h : w0.cell? A = some v) (hM : A.block ∉ M) : (loadVarH T A).run Try.prog w = .ok v w := Loads.cell ht.out (hst.old_cell h hM)
section
attribute [local go_sem ↓] loadedB loadedW storedW conv8
attribute [local go_sem 5000] add32 and32 or32 xor32 not32 shl8u64e shl16u64e shl24u64e shr3u64e shr10u64e
theorem word_lo (g b off c i : Nat) (p : List UInt8) (w : World) (hg : w.heap[g]? = some (.cells (wordsV (win p i)).toArray 76 (0, 0))) (hp : Rd w (.slice (some ⟨b, off, none⟩) 64 c) 1 64 (bytesV p)) (hl : p.length = 64) (hi : i < 16) (hbg : b ≠ g) :
    Calls Try.prog 48 #[.pointer (some ⟨g, 0, none⟩), .int .i64 i, .slice (some ⟨b, off, none⟩) 64 c] w fun e w' => e = .returned (.int .u32 (wI (wdAt p i))) ∧ St w [g] w' [.blk g 76 (wordsV (win p (i + 1)))] := by
  have hst := St.one w g _ _ hg
  have hbd := hp.bd
  obtain ⟨b', off', hbo, hr⟩ := hp.at (k := 0) (by omega)
  cases hbo
  have Hl := hid hl
  obtain ⟨x0, h0⟩ : ∃ x, x = p.getD (4 * i) 0 := ⟨_, rfl⟩
  obtain ⟨x1, h1⟩ : ∃ x, x = p.getD (4 * i + 1) 0 := ⟨_, rfl⟩
  obtain ⟨x2, h2⟩ : ∃ x, x = p.getD (4 * i + 2) 0 := ⟨_, rfl⟩
  obtain ⟨x3, h3⟩ : ∃ x, x = p.getD (4 * i + 3) 0 := ⟨_, rfl⟩
  have k0 := hid (show w.cell? ⟨b, off + 4 * i, none⟩ = some (.int .u8 (x0.toNat : Int)) by rw [h0]; exact byte_cell hr (k := 4 * i) (by omega))
  have k1 := hid (show w.cell? ⟨b, off + 4 * i + 1, none⟩ = some (.int .u8 (x1.toNat : Int)) by rw [h1]; exact byte_cell hr (k := 4 * i + 1) (by omega))
  have k2 := hid (show w.cell? ⟨b, off + 4 * i + 2, none⟩ = some (.int .u8 (x2.toNat : Int)) by rw [h2]; exact byte_cell hr (k := 4 * i + 2) (by omega))
  have k3 := hid (show w.cell? ⟨b, off + 4 * i + 3, none⟩ = some (.int .u8 (x3.toNat : Int)) by rw [h3]; exact byte_cell hr (k := 4 * i + 3) (by omega))
  have Hx := hid (show (BitVec.ofNat 32 x0.toNat <<< 24 ||| BitVec.ofNat 32 x1.toNat <<< 16 ||| BitVec.ofNat 32 x2.toNat <<< 8 ||| BitVec.ofNat 32 x3.toNat : Wd) = wdAt p i by rw [wdAt_lo p hi, h0, h1, h2, h3]; rfl)
  clear h0 h1 h2 h3
  have hng : b ∉ [g] := by simpa using hbg
  have hli := hid (length_win p i)
  have z0 : IntKind.i64.wrap (4 * (i : Int)) = 4 * (i : Int) := IntWalk.i64_in _ (by omega)
  have z1 : IntKind.i64.wrap (4 * (i : Int) + 4) = 4 * (i : Int) + 4 := IntWalk.i64_in _ (by omega)
  have z2 : Int.tmod (i : Int) 16 = (i : Int) := by rw [Int.tmod_eq_emod_of_nonneg (by omega)]; omega
  have b1 : 4 * (i : Int) + 4 ≤ 64 := by omega
  have b2 : (i : Int) < 16 := by omega
  have b3 : 64 ≤ c := hbd.1
  have Hd := hid hbd
  clear hl hbd
  go_enter Try.func48, Try.ntmps48
  go_wp2
  have hstD := hst.drew
  clear hst
  refine wp_region_held_drew (S := (fun w' => (loadVarH 5 ⟨b, off + 4 * i, none⟩).run Try.prog w' = .ok (.int .u8 (x0.toNat : Int)) w' ∧ (loadVarH 5 ⟨b, off + 4 * i + 1, none⟩).run Try.prog w' = .ok (.int .u8 (x1.toNat : Int)) w' ∧ (loadVarH 5 ⟨b, off + 4 * i + 2, none⟩).run Try.prog w' = .ok (.int .u8 (x2.toNat : Int)) w' ∧ (loadVarH 5 ⟨b, off + 4 * i + 3, none⟩).run Try.prog w' = .ok (.int .u8 (x3.toNat : Int)) w')) (by kernel_rfl) (by exact ⟨ldOM hstD k0.out hng, ldOM hstD k1.out hng, ldOM hstD k2.out hng, ldOM hstD k3.out hng⟩) (fun hHeld => ?_)
  refine wpAnyH_take (i := 0) (oi := ⟨some 28, _, _, _, _, _⟩) (v := ?_) rfl (by kernel_rfl) (by kernel_rfl) (by kernel_rfl) (fun _ _ _ h => h) (Or.inl ⟨by rfl, ?_⟩) (by assumption) ?_
  rotate_left
  · intro w hSw; (try dsimp only at hSw); go_simp; try with_reducible rfl
  (try simp only [Act.put, List.setIfInBounds_toArray, List.set_cons_zero, List.set_cons_succ])
  refine wpAnyH_take (i := 1) (oi := ⟨some 29, _, _, _, _, _⟩) (v := ?_) rfl (by kernel_rfl) (by kernel_rfl) (by kernel_rfl) (fun _ _ _ h => h) (Or.inl ⟨by rfl, ?_⟩) (by assumption) ?_
  rotate_left
  · intro w hSw; (try dsimp only at hSw); go_simp; try with_reducible rfl
  (try simp only [Act.put, List.setIfInBounds_toArray, List.set_cons_zero, List.set_cons_succ])
  refine wpAnyH_take (i := 2) (oi := ⟨some 30, _, _, _, _, _⟩) (v := ?_) rfl (by kernel_rfl) (by kernel_rfl) (by kernel_rfl) (fun _ _ _ h => h) (Or.inl ⟨by rfl, ?_⟩) (by assumption) ?_
  rotate_left
  · intro w hSw; (try dsimp only at hSw); go_simp; try with_reducible rfl
  (try simp only [Act.put, List.setIfInBounds_toArray, List.set_cons_zero, List.set_cons_succ])
  refine wpAnyH_take (i := 3) (oi := ⟨some 31, _, _, _, _, _⟩) (v := ?_) rfl (by kernel_rfl) (by kernel_rfl) (by kernel_rfl) (fun _ _ _ h => h) (Or.inl ⟨by rfl, ?_⟩) (by assumption) ?_
  rotate_left
  · intro w hSw; (try dsimp only at hSw); go_simp; try with_reducible rfl
  (try simp only [Act.put, List.setIfInBounds_toArray, List.set_cons_zero, List.set_cons_succ])
  refine wpAnyH_take (i := 4) (oi := ⟨some 32, _, _, _, _, _⟩) (v := ?_) rfl (by kernel_rfl) (by kernel_rfl) (by kernel_rfl) (fun _ _ _ h => h) (Or.inl ⟨by rfl, ?_⟩) (by assumption) ?_
  rotate_left
  · intro w hSw; (try dsimp only at hSw); go_simp; try with_reducible rfl
  (try simp only [Act.put, List.setIfInBounds_toArray, List.set_cons_zero, List.set_cons_succ])
  refine wpAnyH_take (i := 5) (oi := ⟨some 33, _, _, _, _, _⟩) (v := ?_) rfl (by kernel_rfl) (by kernel_rfl) (by kernel_rfl) (fun _ _ _ h => h) (Or.inl ⟨by rfl, ?_⟩) (by assumption) ?_
  rotate_left
  · intro w hSw; (try dsimp only at hSw); go_simp; try with_reducible rfl
  (try simp only [Act.put, List.setIfInBounds_toArray, List.set_cons_zero, List.set_cons_succ])
  refine wpAnyH_take (i := 6) (oi := ⟨some 34, _, _, _, _, _⟩) (v := ?_) rfl (by kernel_rfl) (by kernel_rfl) (by kernel_rfl) (fun _ _ _ h => h) (Or.inl ⟨by rfl, ?_⟩) (by assumption) ?_
  rotate_left
  · intro w hSw; (try dsimp only at hSw); go_simp; try with_reducible rfl
  (try simp only [Act.put, List.setIfInBounds_toArray, List.set_cons_zero, List.set_cons_succ])
  refine wpAnyH_take (i := 7) (oi := ⟨some 35, _, _, _, _, _⟩) (v := ?_) rfl (by kernel_rfl) (by kernel_rfl) (by kernel_rfl) (fun _ _ _ h => h) (Or.inl ⟨by rfl, ?_⟩) (by assumption) ?_
  rotate_left
  · intro w hSw; (try dsimp only at hSw); go_simp; try with_reducible rfl
  (try simp only [Act.put, List.setIfInBounds_toArray, List.set_cons_zero, List.set_cons_succ])
  refine wpAnyH_take (i := 8) (oi := ⟨some 36, _, _, _, _, _⟩) (v := ?_) rfl (by kernel_rfl) (by kernel_rfl) (by kernel_rfl) (fun _ _ _ h => h) (Or.inl ⟨by rfl, ?_⟩) (by assumption) ?_
  rotate_left
  · intro w hSw; (try dsimp only at hSw); go_simp; try with_reducible rfl
  (try simp only [Act.put, List.setIfInBounds_toArray, List.set_cons_zero, List.set_cons_succ])
  refine wpAnyH_take (i := 9) (oi := ⟨some 37, _, _, _, _, _⟩) (v := ?_) rfl (by kernel_rfl) (by kernel_rfl) (by kernel_rfl) (fun _ _ _ h => h) (Or.inl ⟨by rfl, ?_⟩) (by assumption) ?_
  rotate_left
  · intro w hSw; (try dsimp only at hSw); go_simp; try with_reducible rfl
  (try simp only [Act.put, List.setIfInBounds_toArray, List.set_cons_zero, List.set_cons_succ])
  refine wpAnyH_take (i := 10) (oi := ⟨some 38, _, _, _, _, _⟩) (v := ?_) rfl (by kernel_rfl) (by kernel_rfl) (by kernel_rfl) (fun _ _ _ h => h) (Or.inl ⟨by rfl, ?_⟩) (by assumption) ?_
  rotate_left
  · intro w hSw; (try dsimp only at hSw); go_simp; try with_reducible rfl
  (try simp only [Act.put, List.setIfInBounds_toArray, List.set_cons_zero, List.set_cons_succ])
  refine wpAnyH_take (i := 11) (oi := ⟨some 39, _, _, _, _, _⟩) (v := ?_) rfl (by kernel_rfl) (by kernel_rfl) (by kernel_rfl) (fun _ _ _ h => h) (Or.inl ⟨by rfl, ?_⟩) (by assumption) ?_
  rotate_left
  · intro w hSw; (try dsimp only at hSw); go_simp; try with_reducible rfl
  (try simp only [Act.put, List.setIfInBounds_toArray, List.set_cons_zero, List.set_cons_succ])
  refine wpAnyH_take (i := 12) (oi := ⟨some 40, _, _, _, _, _⟩) (v := ?_) rfl (by kernel_rfl) (by kernel_rfl) (by kernel_rfl) (fun _ _ _ h => h) (Or.inl ⟨by rfl, ?_⟩) (by assumption) ?_
  rotate_left
  · intro w hSw; (try dsimp only at hSw); go_simp; try with_reducible rfl
  (try simp only [Act.put, List.setIfInBounds_toArray, List.set_cons_zero, List.set_cons_succ])
  refine wpAnyH_take (i := 13) (oi := ⟨some 41, _, _, _, _, _⟩) (v := ?_) rfl (by kernel_rfl) (by kernel_rfl) (by kernel_rfl) (fun _ _ _ h => h) (Or.inl ⟨by rfl, ?_⟩) (by assumption) ?_
  rotate_left
  · intro w hSw; (try dsimp only at hSw); go_simp; try with_reducible rfl
  (try simp only [Act.put, List.setIfInBounds_toArray, List.set_cons_zero, List.set_cons_succ])
  refine wpAnyH_take (i := 14) (oi := ⟨some 42, _, _, _, _, _⟩) (v := ?_) rfl (by kernel_rfl) (by kernel_rfl) (by kernel_rfl) (fun _ _ _ h => h) (Or.inl ⟨by rfl, ?_⟩) (by assumption) ?_
  rotate_left
  · intro w hSw; (try dsimp only at hSw); go_simp; try with_reducible rfl
  (try simp only [Act.put, List.setIfInBounds_toArray, List.set_cons_zero, List.set_cons_succ])
  refine wpAnyH_take (i := 15) (oi := ⟨some 43, _, _, _, _, _⟩) (v := ?_) rfl (by kernel_rfl) (by kernel_rfl) (by kernel_rfl) (fun _ _ _ h => h) (Or.inl ⟨by rfl, ?_⟩) (by assumption) ?_
  rotate_left
  · intro w hSw; (try dsimp only at hSw); go_simp; try with_reducible rfl
  (try simp only [Act.put, List.setIfInBounds_toArray, List.set_cons_zero, List.set_cons_succ])
  refine wpAnyH_take (i := 16) (oi := ⟨some 44, _, _, _, _, _⟩) (v := ?_) rfl (by kernel_rfl) (by kernel_rfl) (by kernel_rfl) (fun _ _ _ h => h) (Or.inl ⟨by rfl, ?_⟩) (by assumption) ?_
  rotate_left
  · intro w hSw; (try dsimp only at hSw); go_simp; try with_reducible rfl
  (try simp only [Act.put, List.setIfInBounds_toArray, List.set_cons_zero, List.set_cons_succ])
  refine wpAnyH_take (i := 17) (oi := ⟨some 45, _, _, _, _, _⟩) (v := ?_) rfl (by kernel_rfl) (by kernel_rfl) (by kernel_rfl) (fun _ _ _ h => h) (Or.inl ⟨by rfl, ?_⟩) (by assumption) ?_
  rotate_left
  · intro w hSw; (try dsimp only at hSw); go_simp; try with_reducible rfl
  (try simp only [Act.put, List.setIfInBounds_toArray, List.set_cons_zero, List.set_cons_succ])
  refine wpAnyH_take (i := 18) (oi := ⟨some 46, _, _, _, _, _⟩) (v := ?_) rfl (by kernel_rfl) (by kernel_rfl) (by kernel_rfl) (fun _ _ _ h => h) (Or.inl ⟨by rfl, ?_⟩) (by assumption) ?_
  rotate_left
  · intro w hSw; (try dsimp only at hSw); go_simp; try with_reducible rfl
  (try simp only [Act.put, List.setIfInBounds_toArray, List.set_cons_zero, List.set_cons_succ])
  refine wpAnyH_take (i := 19) (oi := ⟨some 47, _, _, _, _, _⟩) (v := ?_) rfl (by kernel_rfl) (by kernel_rfl) (by kernel_rfl) (fun _ _ _ h => h) (Or.inl ⟨by rfl, ?_⟩) (by assumption) ?_
  rotate_left
  · intro w hSw; (try dsimp only at hSw); go_simp; try with_reducible rfl
  (try simp only [Act.put, List.setIfInBounds_toArray, List.set_cons_zero, List.set_cons_succ])
  refine wpAnyH_take (i := 20) (oi := ⟨some 48, _, _, _, _, _⟩) (v := ?_) rfl (by kernel_rfl) (by kernel_rfl) (by kernel_rfl) (fun _ _ _ h => h) (Or.inl ⟨by rfl, ?_⟩) (by assumption) ?_
  rotate_left
  · intro w hSw; (try dsimp only at hSw); go_simp; try with_reducible rfl
  (try simp only [Act.put, List.setIfInBounds_toArray, List.set_cons_zero, List.set_cons_succ])
  refine wpAnyH_take (i := 21) (oi := ⟨some 49, _, _, _, _, _⟩) (v := ?_) rfl (by kernel_rfl) (by kernel_rfl) (by kernel_rfl) (fun _ _ _ h => h) (Or.inl ⟨by rfl, ?_⟩) (by assumption) ?_
  rotate_left
  · intro w hSw; (try dsimp only at hSw); go_simp; try with_reducible rfl
  (try simp only [Act.put, List.setIfInBounds_toArray, List.set_cons_zero, List.set_cons_succ])
  refine wpAnyH_take (i := 22) (oi := ⟨some 50, _, _, _, _, _⟩) (v := ?_) rfl (by kernel_rfl) (by kernel_rfl) (by kernel_rfl) (fun _ _ _ h => h) (Or.inl ⟨by rfl, ?_⟩) (by assumption) ?_
  rotate_left
  · intro w hSw; (try dsimp only at hSw); go_simp; try with_reducible rfl
  (try simp only [Act.put, List.setIfInBounds_toArray, List.set_cons_zero, List.set_cons_succ])
  refine wpAnyH_take (i := 23) (oi := ⟨some 51, _, _, _, _, _⟩) (v := ?_) rfl (by kernel_rfl) (by kernel_rfl) (by kernel_rfl) (fun _ _ _ h => h) (Or.inl ⟨by rfl, ?_⟩) (by assumption) ?_
  rotate_left
  · intro w hSw; (try dsimp only at hSw); go_simp; try with_reducible rfl
  (try simp only [Act.put, List.setIfInBounds_toArray, List.set_cons_zero, List.set_cons_succ])
  refine wpAnyH_ready (rs := [24]) (by kernel_rfl) (by simp) ?_
  refine (AllReadyH.cons (o := ⟨none, _, _, _, _, _⟩) rfl (fun K hK => ?_) AllReadyH.nil)
  rw [if_pos (by rfl)]
  apply ow_storeS (off := i) (v := .int .u32 (wI (wdAt p i))) [] hstD
  rfl
  exact rfl
  exact (by rw [← Hx.out]; exact rfl)
  infer_instance
  exact rfl
  exact rfl
  exact (by rw [length_wordsV, hli.out]; omega)
  intro w9 hst2
  refine hK.out _ _ ?_ (fun hHeld => ?_)
  · exact ⟨ldOM hst2 k0.out hng, ldOM hst2 k1.out hng, ldOM hst2 k2.out hng, ldOM hst2 k3.out hng⟩
  clear hK K
  (try simp only [Act.put, List.setIfInBounds_toArray, List.set_cons_zero, List.set_cons_succ])
  refine wpAnyH_done (by kernel_rfl) ?_ _
  clear hHeld hstD
  have hst3 : St w [g] w9 [.blk g 76 (wordsV (win p (i + 1)))] := by
    rw [show win p (i + 1) = (win p i).set i (wdAt p i) from by rw [win, Nat.mod_eq_of_lt hi], ← put_words _ (by rw [hli.out]; omega)]
    exact hst2
  clear hst2
  have hget := hid (show (wordsV (win p (i + 1)))[i]? = some (.int .u32 (wI (wdAt p i))) by
    rw [words_get _ (by rw [length_win]; omega)]
    have := win_get p (i := i + 1) (t := i) (by omega) (by omega)
    rw [Nat.mod_eq_of_lt hi] at this
    rw [this])
  go_wp2_with (first | go_big_skip | go_big_guard | (refine wl_loadE rfl rfl rfl ?_; first | refine ⟨_, Loads.at [] hst3 (hget.out), ?_⟩))
  go_ret
  exact ⟨rfl, hst3⟩
end
end Go.Proofs.Ytilgjldnlgfehaa
