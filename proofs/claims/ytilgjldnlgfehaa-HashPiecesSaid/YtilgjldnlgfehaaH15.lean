import Derived.Test.YtilgjldnlgfehaaH14
namespace Go.Proofs.Ytilgjldnlgfehaa
open Go.RowKit Go.Shelf Hp
attribute [local irreducible] Go.Calls
set_option maxRecDepth 100000
set_option maxHeartbeats 4000000
theorem loadedSS (A : Addr) : loadVar 36 A = loadVarH 36 A := rfl
theorem loadedBB (A : Addr) : loadVar 22 A = loadVarH 22 A := rfl
attribute [local go_sem ↓] loadedBB
theorem refSum_any (ao : Option Addr) (n c : Nat) (bs : List UInt8) (w : World) (hA : Rd w (.slice ao n c) 1 n (bytesV bs)) (hn : bs.length = n) (hb : n ≤ 100000) :
    Calls Try.prog 15 #[.slice ao n c] w fun e w' => e = .returned (.agg (bytesV (sumB bs)).toArray) ∧ St w [] w' [] := by
  have hst := St.refl w
  obtain ⟨ps, hps⟩ : ∃ ps, ps = pieces bs := ⟨_, rfl⟩
  have HP := hid hps
  have hp64 : ∀ (k : Nat) (p : List UInt8), ps[k]? = some p → p.length = 64 := by
    intro k p hk
    rw [hps, pieces, List.getElem?_map] at hk
    cases hq : (List.range ((filled bs).length / 64))[k]? with
    | none => rw [hq] at hk; cases hk
    | some x =>
      rw [hq] at hk
      cases hk
      rw [List.getElem?_eq_some_iff] at hq
      obtain ⟨hx, rfl⟩ := hq
      simp at hx
      refine length_cut64 (m := (filled bs).length / 64) ?_ (by simpa using hx)
      have h1 := filled_mod bs
      omega
  have H64 := hid hp64
  clear hp64 hps
  go_enter Try.func15, Try.ntmps15
  go_wp2_with (first | go_big_skip | go_big_guard | (refine wl_alloc hst rfl rfl ?_; intro g2 _ hst1; clear hst) | (go_at_call 22; refine (refStart_any _).mono ?_; rintro _ _ ⟨rfl, h4⟩; have hst2 := St.call0 hst1 h4; clear h4 hst1) | (refine wl_alloc hst2 rfl rfl ?_; intro g3 _ hst3; clear hst2) | (refine wl_storeA [] hst3 rfl rfl rfl rfl rfl rfl rfl ?_; intro _ hst4; clear hst3) | (go_at_call 12; refine (refFill_any ao n c bs _ (Rd.old hst4 hA) hn hb).mono ?_; rw [← HP.out]; rintro _ w5 ⟨out, vs, rfl, hvl, h4⟩; have hst5 := St.call hst4 h4; clear h4 hst4; obtain ⟨N, hN⟩ : ∃ N, N = vs.length := ⟨_, rfl⟩; rw [← hN] at hst5; obtain ⟨ax, cx, rfl⟩ := St.rowSliceAt [] hst5; have HN := hid hN; have HV := hid hvl; clear hN hvl))
  have hbd := (Rd.row hst5 (.head _)).bd
  have hbd1 := hbd.1
  have hbd2 := hbd.2.1
  clear hbd
  obtain ⟨Z, hZ⟩ : ∃ Z : List Value, Z = List.replicate 32 (.int .u8 0) := ⟨_, rfl⟩
  have HZ := hid hZ
  have hst6 : St w [] w5 (.blk g3 36 (wordsV (foldP ps 0).list) :: .blk g2 29 Z :: .row (.slice ax N cx) 22 1 N vs :: rowsB 5 vs ps) := by
    rw [hZ, foldP_zero]
    exact St.perm hst5 (by
      refine (List.perm_append_comm (l₁ := _ :: rowsB 5 vs ps)).trans ?_
      exact List.Perm.refl _)
  clear hst5 hZ
  go_loopw [5] (fun q wr => ∃ k : Nat, k ≤ N ∧ q = .int .i64 k ∧ St w [] wr (.blk g3 36 (wordsV (foldP ps k).list) :: .blk g2 29 Z :: .row (.slice ax N cx) 22 1 N vs :: rowsB 5 vs ps)) (fun q _ => N - (intOf q).toNat)
  case atStart => exact ⟨0, by omega, rfl, hst6⟩
  case round =>
    clear hst6
    obtain ⟨k, hk, rfl, hst⟩ := hrel
    by_cases hkN : k < N
    · obtain ⟨p, hp⟩ : ∃ p, ps[k]? = some p := ⟨_, List.getElem?_eq_getElem (by rw [← HV.out, ← HN.out]; exact hkN)⟩
      obtain ⟨v, hv, hm⟩ := rowsB_at (T := 5) HV.out hp
      have hl64 := H64.out k p hp
      obtain ⟨S, hS⟩ : ∃ S, S = foldP ps k := ⟨_, rfl⟩
      obtain ⟨T, hT⟩ : ∃ T, T = S.turn p := ⟨_, rfl⟩
      have HS := hid (show foldP ps (k + 1) = T by rw [hT, hS, foldP_succ hp])
      have HT := hid hT
      rw [← hS] at hst
      obtain ⟨bq, cq, rfl, _, _⟩ := rowP_some hst (.tail _ (.tail _ (.tail _ hm))) (by omega)
      obtain ⟨b, off, rfl, hr⟩ := (Rd.row hst (.tail _ (.tail _ (.head _)))).at hkN
      rw [hl64] at hm hv
      have HL := hid hl64
      have HM := hid hm
      have HVV := hid hv
      have hk2 : (k : Int) < (N : Int) := by omega
      have d1 : decide ((k : Int) < (N : Int)) = true := decide_eq_true hk2
      clear hr hv hS hp hl64 hm hT
      go_wp2_with (first | go_big_skip | go_big_guard | fail)
      have hD := hst.drew
      clear hst
      refine wp_region_held_drew (S := (fun w' => (loadVarH 22 ⟨b, off + k, none⟩).run Try.prog w' = .ok (.slice (some ⟨bq, 0, none⟩) 64 cq) w')) (by kernel_rfl) (by exact ldRow hD (.tail _ (.tail _ (.head _))) HVV.out) (fun hHeld => ?_)
      refine wpAnyH_take (i := 1) (oi := ⟨some 19, _, _, _, _, _⟩) (v := ?_) rfl (by kernel_rfl) (by kernel_rfl) (by kernel_rfl) (fun _ _ _ h => h) (Or.inl ⟨by rfl, ?_⟩) (by assumption) ?_
      rotate_left
      · intro w hSw; (try dsimp only at hSw); go_simp; try with_reducible rfl
      (try simp only [Act.put, List.setIfInBounds_toArray, List.set_cons_zero, List.set_cons_succ])
      refine wpAnyH_take (i := 2) (oi := ⟨some 20, _, _, _, _, _⟩) (v := ?_) rfl (by kernel_rfl) (by kernel_rfl) (by kernel_rfl) (fun _ _ _ h => h) (Or.inl ⟨by rfl, ?_⟩) (by assumption) ?_
      rotate_left
      · intro w hSw; (try dsimp only at hSw); go_simp; try with_reducible rfl
      (try simp only [Act.put, List.setIfInBounds_toArray, List.set_cons_zero, List.set_cons_succ])
      refine wpAnyH_take (i := 3) (oi := ⟨some 21, _, _, _, _, _⟩) (v := ?_) rfl (by kernel_rfl) (by kernel_rfl) (by kernel_rfl) (fun _ _ _ h => h) (Or.inl ⟨by rfl, ?_⟩) (by assumption) ?_
      rotate_left
      · intro w hSw; (try dsimp only at hSw); go_simp; try with_reducible rfl
      (try simp only [Act.put, List.setIfInBounds_toArray, List.set_cons_zero, List.set_cons_succ])
      refine wpAnyH_take (i := 4) (oi := ⟨some 22, _, _, _, _, _⟩) (v := ?_) rfl (by kernel_rfl) (by kernel_rfl) (by kernel_rfl) (fun _ _ _ h => h) (Or.inl ⟨by rfl, ?_⟩) (by assumption) ?_
      rotate_left
      · intro w hSw; (try dsimp only at hSw); go_simp; try with_reducible rfl
      (try simp only [Act.put, List.setIfInBounds_toArray, List.set_cons_zero, List.set_cons_succ])
      refine wpAnyH_ready (rs := [0]) (by kernel_rfl) (by simp) ?_
      refine (AllReadyH.cons (o := ⟨some 18, _, _, _, _, _⟩) rfl (fun K hK => ?_) AllReadyH.nil)
      rw [if_pos (by rfl)]
      refine ow_of_wl (ops := #[]) (by rfl) ?_
      refine wl_loadE rfl rfl rfl ?_
      refine ⟨_, Loads.atA (wordsV S.list) [] hD rfl rfl, ?_⟩
      refine q0_nil ?_
      refine hK.out _ _ ?_ (fun hHeld => ?_)
      · exact ldRow hD (.tail _ (.tail _ (.head _))) HVV.out
      clear hK K
      (try simp only [Act.put, List.setIfInBounds_toArray, List.set_cons_zero, List.set_cons_succ])
      refine wpAnyH_ready (rs := [5]) (by kernel_rfl) (by simp) ?_
      refine (AllReadyH.cons (o := ⟨some 23, _, _, _, _, _⟩) rfl (fun K hK => ?_) AllReadyH.nil)
      go_simp
      go_at_call 20
      refine (refTurn_any S p (some ⟨bq, 0, none⟩) 64 cq _ (Rd.rowP hD (.tail _ (.tail _ (.tail _ HM.out)))) HL.out).mono ?_
      rintro _ w7 ⟨h3, h4⟩
      rw [if_pos HL.out, ← HT.out] at h3
      subst h3
      have hE := St.call0 hD h4
      clear h4
      refine hK.out _ _ ?_ (fun hHeld => ?_)
      · exact ldRow hE (.tail _ (.tail _ (.head _))) HVV.out
      clear hK K
      (try simp only [Act.put, List.setIfInBounds_toArray, List.set_cons_zero, List.set_cons_succ])
      refine wpAnyH_take (i := 6) (oi := ⟨some 17, _, _, _, _, _⟩) (v := ?_) rfl (by kernel_rfl) (by kernel_rfl) (by kernel_rfl) (fun _ _ _ h => h) (Or.inl ⟨by rfl, ?_⟩) (by assumption) ?_
      rotate_left
      · intro w hSw; (try dsimp only at hSw); go_simp; try with_reducible rfl
      (try simp only [Act.put, List.setIfInBounds_toArray, List.set_cons_zero, List.set_cons_succ])
      refine wpAnyH_take (i := 7) (oi := ⟨some 24, _, _, _, _, _⟩) (v := ?_) rfl (by kernel_rfl) (by kernel_rfl) (by kernel_rfl) (fun _ _ _ h => h) (Or.inl ⟨by rfl, ?_⟩) (by assumption) ?_
      rotate_left
      · intro w hSw; (try dsimp only at hSw); go_simp; try with_reducible rfl
      (try simp only [Act.put, List.setIfInBounds_toArray, List.set_cons_zero, List.set_cons_succ])
      refine wpAnyH_take (i := 8) (oi := ⟨some 25, _, _, _, _, _⟩) (v := ?_) rfl (by kernel_rfl) (by kernel_rfl) (by kernel_rfl) (fun _ _ _ h => h) (Or.inl ⟨by rfl, ?_⟩) (by assumption) ?_
      rotate_left
      · intro w hSw; (try dsimp only at hSw); go_simp; try with_reducible rfl
      (try simp only [Act.put, List.setIfInBounds_toArray, List.set_cons_zero, List.set_cons_succ])
      refine wpAnyH_ready (rs := [9]) (by kernel_rfl) (by simp) ?_
      refine (AllReadyH.cons (o := ⟨none, _, _, _, _, _⟩) rfl (fun K hK => ?_) AllReadyH.nil)
      rw [if_pos (by rfl)]
      refine ow_storeA [] hE rfl rfl rfl inferInstance rfl rfl rfl ?_
      intro w8 hst2
      refine hK.out _ _ ?_ (fun hHeld => ?_)
      · exact ldRow hst2 (.tail _ (.tail _ (.head _))) HVV.out
      clear hK K
      (try simp only [Act.put, List.setIfInBounds_toArray, List.set_cons_zero, List.set_cons_succ])
      refine wpAnyH_done (by kernel_rfl) ?_ _
      clear hHeld
      clear hE hD
      go_wp2_with (first | go_big_skip | go_big_guard | fail)
      go_roundw
      case rel => exact ⟨k + 1, by omega, by go_num, by rw [HS.out]; exact hst2⟩
      case measure => simp [intOf]; omega
    · have ek : k = N := by omega
      subst ek
      have e : (foldP ps k).bytes = sumB bs := by rw [foldP_all (HN.out.trans HV.out), HP.out]; rfl
      obtain ⟨S, hS⟩ : ∃ S, S = foldP ps k := ⟨_, rfl⟩
      rw [← hS] at e hst
      have HE := hid e
      clear e hS
      go_wp2_with (first | go_big_skip | go_big_guard | (refine wl_alloc hst rfl rfl ?_; intro g6 w6 hst1; clear hst))
      clear hk hkN
      obtain ⟨R, hR⟩ : ∃ R : List HA, R = .row (.slice ax k cx) 22 1 k vs :: rowsB 5 vs ps := ⟨_, rfl⟩
      have hst2 : St w [] w6 (.blk g6 29 (bytesV (outB S.bytes 0)) :: .blk g3 36 (wordsV S.list) :: .blk g2 29 Z :: R) := by rw [hR, outB_0]; exact hst1
      clear hst1 hR
      go_loopw [7] (fun q wr => ∃ i : Nat, i ≤ 32 ∧ q = .int .i64 i ∧ St w [] wr (.blk g6 29 (bytesV (outB S.bytes i)) :: .blk g3 36 (wordsV S.list) :: .blk g2 29 Z :: R)) (fun q _ => 32 - (intOf q).toNat)
      case atStart => exact ⟨0, by omega, rfl, hst2⟩
      case round =>
        clear hst2
        obtain ⟨i, hi, rfl, hst⟩ := hrel
        by_cases hi32 : i < 32
        · obtain ⟨j, hj⟩ : ∃ j, j = i / 4 := ⟨_, rfl⟩
          obtain ⟨r, hr⟩ : ∃ r, r = i % 4 := ⟨_, rfl⟩
          have hj8 : j < 8 := by omega
          have hr4 : r < 4 := by omega
          have hij : i = 4 * j + r := by omega
          have q1 : Int.tdiv (i : Int) 4 = (j : Int) := by rw [Int.tdiv_eq_ediv_of_nonneg (by omega)]; omega
          have q2 : (i : Int) / 4 = (j : Int) := by omega
          have q3 : Int.tmod (i : Int) 4 = (r : Int) := by rw [Int.tmod_eq_emod_of_nonneg (by omega)]; omega
          have q4 : (i : Int) % 4 = (r : Int) := by omega
          obtain ⟨x, hx⟩ : ∃ x, x = S.list.getD j 0 := ⟨_, rfl⟩
          have gx := words_get S.list (show j < S.list.length from hj8)
          rw [← hx] at gx
          have HX := hid hx
          have GX := hid gx
          obtain ⟨Y, hY⟩ : ∃ Y, Y = UInt8.ofNat (x >>> (24 - 8 * r)).toNat := ⟨_, rfl⟩
          obtain ⟨X, hX⟩ : ∃ X : Int, X = wI (x >>> (24 - 8 * r)) := ⟨_, rfl⟩
          have f1 : ∀ T, binOp .shr T (.int .u32 (wI x)) (.int .i64 (24 - 8 * (r : Int))) = pure (.int .u32 X) := by
            intro T
            rw [show (24 - 8 * (r : Int)) = ((24 - 8 * r : Nat) : Int) by omega, shrN T x .i64 (24 - 8 * r) (by omega), hX]
          have f3 : X % 256 = (Y.toNat : Int) := by
            rw [hX, hY, byte_of]
          have f2 : IntKind.u8.wrap X = (Y.toNat : Int) := f3
          have HY := hid (show S.bytes.getD i 0 = Y by rw [hij, byteS_at S j r hj8 hr4, ← HX.out, hY])
          have HO := hid (length_outB (l := S.bytes) (n := i) (length_bytesS S) (by omega))
          have z0 : IntKind.i64.wrap (8 * (r : Int)) = 8 * (r : Int) := IntWalk.i64_in _ (by omega)
          have z1 : IntKind.i64.wrap (24 - 8 * (r : Int)) = 24 - 8 * (r : Int) := IntWalk.i64_in _ (by omega)
          have b1 : (i : Int) < 32 := by omega
          have b2 : (j : Int) < 8 := by omega
          have HI := hid hi32
          clear hX hY hx gx hij hj hr
          go_wp2_with (first | go_big_skip | go_big_guard | (refine wl_loadE rfl rfl rfl ?_; first | refine ⟨_, Loads.at [_] hst (GX.out), ?_⟩) | (refine wl_store [] hst rfl rfl rfl (v := .int _ _) rfl rfl rfl ?_ ?_; (rw [length_bytesV, HO.out]; show i + 1 ≤ 32; have := HI.out; omega); intro w9 hst2; clear hst))
          have hst3 : St w [] w9 (.blk g6 29 (bytesV (outB S.bytes (i + 1))) :: .blk g3 36 (wordsV S.list) :: .blk g2 29 Z :: R) := by
            have h := put_outB (length_bytesS S) HI.out HY.out
            rw [← h]
            exact hst2
          clear hst2
          go_roundw
          case rel => exact ⟨i + 1, by have := HI.out; omega, by go_num, hst3⟩
          case measure => simp [intOf]; omega
        · have e : i = 32 := by omega
          subst e
          rw [outB_all (length_bytesS S), HE.out] at hst
          have h32 : (bytesV (sumB bs)).length = 32 := by rw [← HE.out]; rfl
          go_wp2_with (first | go_big_skip | go_big_guard | (refine wl_loadE rfl rfl rfl ?_; first | refine ⟨_, Loads.atA (bytesV (sumB bs)) [] hst (h32) (by rw [List.drop_zero, List.take_length]), ?_⟩) | (refine wl_storeA [_, _] hst rfl rfl rfl rfl (h32) (ones_bytesV _) (by rw [HZ.out]; rfl) ?_; intro w12 hst12; clear hst))
          have hl := Loads.atA (P := Try.prog) (off := 0) (T := 29) (bytesV (sumB bs)) [_, _] hst12 h32 (by rw [List.drop_zero, List.take_length])
          refine bodyPost_ret (results_cellL rfl rfl hl) rfl ⟨rfl, hst12.nil⟩
end Go.Proofs.Ytilgjldnlgfehaa
