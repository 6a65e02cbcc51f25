import Derived.Test.YtilgjldnlgfehaaH19
namespace Go.Proofs.Ytilgjldnlgfehaa
open Go.RowKit Go.Shelf Hp
attribute [local irreducible] Go.Calls
set_option maxRecDepth 100000
set_option maxHeartbeats 4000000
theorem loadedW32 (A : Addr) : loadVar 35 A = loadVarH 35 A := rfl
theorem loadedU8 (A : Addr) : loadVar 5 A = loadVarH 5 A := rfl
theorem Hp.Loads.rowAt {P : Program} {w0 w : World} {M : List Nat} {L : List HA} {T T' : TypeId} {b off n m c k : Nat} {v : Value} {xs : List Value} (h : St w0 M w L) (hm : HA.row (.slice (some ⟨b, off, none⟩) n c) T' 1 m xs ∈ L) [ht : TyS P T] (hk : xs[k]? = some v) :
    Loads P w T ⟨b, off + k, none⟩ v := ldRow h hm hk
attribute [local go_sem ↓] loadedSS loadedBB loadedW32 loadedU8
theorem pieces_far (ao : Option Addr) (n c : Nat) (bs : List UInt8) (z : Int) (w : World) (hA : Rd w (.slice ao n c) 1 n (bytesV bs)) (hn : bs.length = n) (hz : -9223372036854775808 ≤ z ∧ z ≤ 9223372036854775807) (k1 : (1000 : Int) < n) :
    Calls Try.prog 5 #[.slice ao n c, .int .i64 z] w fun e w' => e = .returned (.bool true) ∧ St w [] w' [] := by
  have hst := St.refl w
  go_enter Try.func5, Try.ntmps5
  go_wp2_with (first | go_big_skip | go_big_guard | (go_at_call 9; refine (awake_any _).mono ?_; rintro _ _ ⟨rfl, h4⟩; have hst100 := St.call0 hst h4; clear h4 hst))
  go_ret
  exact ⟨rfl, hst100.nil⟩
theorem pieces_near (ao : Option Addr) (n c : Nat) (bs : List UInt8) (z : Int) (w : World) (hA : Rd w (.slice ao n c) 1 n (bytesV bs)) (hn : bs.length = n) (hz : -9223372036854775808 ≤ z ∧ z ≤ 9223372036854775807) (k1 : n ≤ 1000) :
    Calls Try.prog 5 #[.slice ao n c, .int .i64 z] w fun e w' => e = .returned (.bool true) ∧ St w [] w' [] := by
  have hst := St.refl w
  have Hn := hid hn
  have K1 := hid k1
  have k2 : decide ((1000 : Int) < n) = false := decide_eq_false (by omega)
  obtain ⟨M, hM⟩ : ∃ M, M = n / 64 := ⟨_, rfl⟩
  have e1 : Int.tdiv (n : Int) 64 = (M : Int) := by rw [Int.tdiv_eq_ediv_of_nonneg (by omega)]; omega
  have e2 : (n : Int) / 64 = (M : Int) := by omega
  have hM1 : 64 * M ≤ n := by omega
  have hM2 : M ≤ 15 := by omega
  obtain ⟨k, hk, hp⟩ := pickI_nat (x := z) (n := M + 1) (by omega)
  have HK := hid (show pickI z ((M : Int) + 1) = (k : Int) by rw [← hp]; congr 1)
  have HK2 := hid (show k ≤ M by omega)
  have z9 : IntKind.i64.wrap ((M : Int) + 1) = (M : Int) + 1 := IntWalk.i64_in _ (by omega)
  obtain ⟨ps, hps⟩ : ∃ ps, ps = pieces bs := ⟨_, rfl⟩
  have HP := hid hps
  have hp64 : ∀ (k : Nat) (p : List UInt8), ps[k]? = some p → p.length = 64 := by
    intro k p hk
    rw [hps, pieces, List.getElem?_map] at hk
    cases hq : (List.range ((filled bs).length / 64))[k]? with
    | none => rw [hq] at hk; cases hk
    | some x =>
      rw [hq] at hk
      cases hk
      rw [List.getElem?_eq_some_iff] at hq
      obtain ⟨hx, rfl⟩ := hq
      simp at hx
      refine length_cut64 (m := (filled bs).length / 64) ?_ (by simpa using hx)
      have h1 := filled_mod bs
      omega
  have H64 := hid hp64
  have hpl : 64 * ps.length = (filled bs).length := by
    have h1 := filled_mod bs
    rw [hps, pieces]
    simp
    omega
  have HPL := hid hpl
  clear hp64 hps hk hp k1 hn hM hpl
  go_enter Try.func5, Try.ntmps5
  go_wp2_with (first | go_big_skip | go_big_guard | (go_at_call 9; refine (awake_any _).mono ?_; rintro _ _ ⟨rfl, h4⟩; have hst1 := St.call0 hst h4; clear h4 hst) | (go_at_call 11; refine (fill_any ao n c bs _ (Rd.old hst1 hA) Hn.out (by have := K1.out; omega)).mono ?_; rw [← HP.out]; rintro _ w5 ⟨out, vs, rfl, hvl, h4⟩; have hst5 := St.call hst1 h4; clear h4 hst1; obtain ⟨N, hN⟩ : ∃ N, N = vs.length := ⟨_, rfl⟩; rw [← hN] at hst5; obtain ⟨ax, cx, rfl⟩ := St.rowSliceAt [] hst5; have HN := hid hN; have HV := hid hvl; clear hN hvl) | (go_at_call 21; refine (start_any _).mono ?_; rintro _ _ ⟨rfl, h4⟩; have hst6 := St.call0 hst5 h4; clear h4 hst5) | (refine wl_alloc hst6 rfl rfl ?_; intro g8 _ hst7; clear hst6) | (refine wl_storeA [] hst7 rfl rfl rfl rfl rfl rfl rfl ?_; intro _ hst8; clear hst7) | (go_at_call 23; refine (pick_spec z ((M : Int) + 1) _ hz (by omega)).mono ?_; rw [HK.out]; rintro _ w9 ⟨rfl, h4⟩; have hst9 := St.call0 hst8 h4; clear h4 hst8))
  have hbd := (Rd.row hst9 (.tail _ (.head _))).bd
  have hbd1 := hbd.1
  have hbd2 := hbd.2.1
  have hNp : N = ps.length := by rw [HN.out, HV.out]
  have HNP := hid hNp
  have hNs : N ≤ 20 := by
    have := HPL.out
    have := length_filled bs
    have := Hn.out
    have := K1.out
    have : noughts bs.length < 64 := by unfold noughts; omega
    omega
  clear hbd hNp
  have hst2 : St w [] w9 (.rowP isB (.slice none 0 0) 5 1 (64 * 0) (bytesV ((ps.take 0).flatten)) :: .blk g8 36 (wordsV (foldP ps 0).list) :: .row (.slice ax N cx) 22 1 N vs :: rowsB 5 vs ps) := by
    have h := St.nilPQ isB 5 1 hst9
    rw [foldP_zero]
    refine St.sub h (.cons_cons _ (.cons_cons _ (.cons_cons _ ?_)))
    exact List.sublist_append_left _ _
  clear hst9
  go_loopw [7, 9] (fun av q wr => ∃ i : Nat, i ≤ N ∧ q = .int .i64 i ∧ St w [] wr (.rowP isB av 5 1 (64 * i) (bytesV ((ps.take i).flatten)) :: .blk g8 36 (wordsV (foldP ps i).list) :: .row (.slice ax N cx) 22 1 N vs :: rowsB 5 vs ps)) (fun _ q _ => N - (intOf q).toNat)
  case atStart => exact ⟨0, by omega, rfl, hst2⟩
  case round =>
    clear hst2
    obtain ⟨i, hi, rfl, hst⟩ := hrel
    by_cases hiN : i < N
    · obtain ⟨p, hp⟩ : ∃ p, ps[i]? = some p := ⟨_, List.getElem?_eq_getElem (by rw [← HNP.out]; exact hiN)⟩
      obtain ⟨v, hv, hm⟩ := rowsB_at (T := 5) HV.out hp
      have hl64 := H64.out i p hp
      obtain ⟨S, hS⟩ : ∃ S, S = foldP ps i := ⟨_, rfl⟩
      obtain ⟨T, hT⟩ : ∃ T, T = S.turn p := ⟨_, rfl⟩
      have HS := hid (show foldP ps (i + 1) = T by rw [hT, hS, foldP_succ hp])
      have HS0 := hid hS
      have HT := hid hT
      have HTF := hid (take_flat_succ hp)
      rw [← hS] at hst
      obtain ⟨bq, cq, rfl, _, _⟩ := rowP_some hst (.tail _ (.tail _ (.tail _ hm))) (by omega)
      obtain ⟨b, off, rfl, hr⟩ := (Rd.row hst (.tail _ (.tail _ (.head _)))).at hiN
      rw [hl64] at hm hv
      have hc := hr i _ hv
      have HL := hid hl64
      have HM := hid hm
      have HVV := hid hv
      have hk2 : (i : Int) < (N : Int) := by omega
      have d1 : decide ((i : Int) < (N : Int)) = true := decide_eq_true hk2
      have d64 : ((64 : Int) != 64) = false := by decide
      clear hr hv hS hp hl64 hm hT
      by_cases hik : i = k
      · have d2 : ((i : Int) == (k : Int)) = true := by rw [hik]; simp
        have z0 : IntKind.i64.wrap (64 * (k : Int)) = 64 * (k : Int) := IntWalk.i64_in _ (by have := HK2.out; omega)
        have n1 : (64 * (k : Int)).toNat = 64 * k := by omega
        have hAb := hA.bd.1
        have n3 : 64 * (k : Int) ≤ (c : Int) := by have := HK2.out; omega
        have n5 : 0 ≤ 64 * (k : Int) := by omega
        have HF := hid (show foldP (cuts (bs.take (64 * k)) k) k = S by rw [foldP_pieces bs (by rw [Hn.out]; have := HK2.out; omega), HS0.out, HP.out, hik])
        have HAT := hid (show (bs.take (64 * k)).length = 64 * k by rw [List.length_take, Hn.out]; have := HK2.out; omega)
        clear hik
        go_wp2_with (first | go_big_skip | go_big_guard | (refine wl_loadE rfl rfl rfl ?_; refine ⟨_, Loads.rowAt hst (.tail _ (.tail _ (.head _))) HVV.out, ?_⟩) | (go_at_call 24; refine (turnedL_any ao (64 * k) c k (bs.take (64 * k)) _ (Rd.takeN (Rd.old hst hA) (by have := HK2.out; omega)) HAT.out rfl (by have := HK2.out; omega)).mono ?_; rw [HF.out]; rintro _ _ ⟨rfl, h4⟩; have hst1 := St.call0 hst h4; clear h4 hst) | (refine wl_alloc hst1 rfl rfl ?_; intro g10 _ hst2; clear hst1) | (refine wl_storeA [] hst2 rfl rfl rfl rfl rfl rfl rfl ?_; intro _ hst3; clear hst2) | (refine wl_loadE rfl rfl rfl ?_; first | refine ⟨_, Loads.atA (wordsV S.list) [] hst3 (rfl) (rfl), ?_⟩ | refine ⟨_, Loads.atA (wordsV S.list) [_, _] hst3 (rfl) (rfl), ?_⟩) | (refine wl_neq_words S.list rfl rfl rfl rfl rfl ?_))
        have hst := St.sub hst3 (.cons _ (List.Sublist.refl _))
        clear hst3
        go_cut [12, 13] (fun a b2 wx => ∃ g12, a = .pointer (some ⟨g12, 0, none⟩) ∧ b2 = .int .i64 0 ∧ St w [] wx (.blk g12 36 (wordsV T.list) :: .rowP isB u7 5 1 (64 * i) (bytesV ((ps.take i).flatten)) :: .blk g8 36 (wordsV S.list) :: .row (.slice (some ⟨b, off, none⟩) N cx) 22 1 N vs :: rowsB 5 vs ps))
        case first =>
          have hD := hst.drew
          clear hst
          refine wp_region_held_drew (S := (fun w' => (loadVarH 36 ⟨g8, 0, none⟩).run Try.prog w' = .ok (.agg (List.toArray (wordsV S.list))) w' ∧ (loadVarH 22 ⟨b, off + i, none⟩).run Try.prog w' = .ok (.slice (some ⟨bq, 0, none⟩) 64 cq) w')) (by kernel_rfl) (by exact ⟨ldA (wordsV S.list) [_] hD (rfl) (rfl), ldRow hD (.tail _ (.tail _ (.head _))) HVV.out⟩) (fun hHeld => ?_)
          refine wpAnyH_take (i := 0) (oi := ⟨some 63, _, _, _, _, _⟩) (v := ?_) rfl (by kernel_rfl) (by kernel_rfl) (by kernel_rfl) (fun _ _ _ h => h) (Or.inl ⟨by rfl, ?_⟩) (by assumption) ?_
          rotate_left
          · intro w hSw; (try dsimp only at hSw); go_simp; try with_reducible rfl
          (try simp only [Act.put, List.setIfInBounds_toArray, List.set_cons_zero, List.set_cons_succ])
          refine wpAnyH_take (i := 1) (oi := ⟨some 64, _, _, _, _, _⟩) (v := ?_) rfl (by kernel_rfl) (by kernel_rfl) (by kernel_rfl) (fun _ _ _ h => h) (Or.inl ⟨by rfl, ?_⟩) (by assumption) ?_
          rotate_left
          · intro w hSw; (try dsimp only at hSw); go_simp; try with_reducible rfl
          (try simp only [Act.put, List.setIfInBounds_toArray, List.set_cons_zero, List.set_cons_succ])
          refine wpAnyH_take (i := 2) (oi := ⟨some 65, _, _, _, _, _⟩) (v := ?_) rfl (by kernel_rfl) (by kernel_rfl) (by kernel_rfl) (fun _ _ _ h => h) (Or.inl ⟨by rfl, ?_⟩) (by assumption) ?_
          rotate_left
          · intro w hSw; (try dsimp only at hSw); go_simp; try with_reducible rfl
          (try simp only [Act.put, List.setIfInBounds_toArray, List.set_cons_zero, List.set_cons_succ])
          refine wpAnyH_take (i := 3) (oi := ⟨some 66, _, _, _, _, _⟩) (v := ?_) rfl (by kernel_rfl) (by kernel_rfl) (by kernel_rfl) (fun _ _ _ h => h) (Or.inl ⟨by rfl, ?_⟩) (by assumption) ?_
          rotate_left
          · intro w hSw; (try dsimp only at hSw); go_simp; try with_reducible rfl
          (try simp only [Act.put, List.setIfInBounds_toArray, List.set_cons_zero, List.set_cons_succ])
          refine wpAnyH_take (i := 4) (oi := ⟨some 67, _, _, _, _, _⟩) (v := ?_) rfl (by kernel_rfl) (by kernel_rfl) (by kernel_rfl) (fun _ _ _ h => h) (Or.inl ⟨by rfl, ?_⟩) (by assumption) ?_
          rotate_left
          · intro w hSw; (try dsimp only at hSw); go_simp; try with_reducible rfl
          (try simp only [Act.put, List.setIfInBounds_toArray, List.set_cons_zero, List.set_cons_succ])
          refine wpAnyH_ready (rs := [5, 9]) (by kernel_rfl) (by simp) ?_
          refine (AllReadyH.cons (o := ⟨some 68, _, _, _, _, _⟩) rfl (fun K hK => ?_) (AllReadyH.cons (o := ⟨some 12, _, _, _, _, _⟩) rfl (fun K hK => ?_) AllReadyH.nil))
          · go_simp
            go_at_call 19
            refine (turn_any S p (some ⟨bq, 0, none⟩) 64 cq _ (Rd.rowP hD (.tail _ (.tail _ (.tail _ HM.out)))) HL.out).mono ?_
            rintro _ w7 ⟨h3, h4⟩
            rw [if_pos HL.out, ← HT.out] at h3
            subst h3
            have hN1 := St.call0 hD h4
            clear h4
            refine hK.out _ _ ?_ (fun hHeld => ?_)
            · exact ⟨ldA (wordsV S.list) [_] hN1 (rfl) (rfl), ldRow hN1 (.tail _ (.tail _ (.head _))) HVV.out⟩
            clear hK K
            (try simp only [Act.put, List.setIfInBounds_toArray, List.set_cons_zero, List.set_cons_succ])
            refine wpAnyH_take (i := 6) (oi := ⟨some 62, _, _, _, _, _⟩) (v := ?_) rfl (by kernel_rfl) (by kernel_rfl) (by kernel_rfl) (fun _ _ _ h => h) (Or.inl ⟨by rfl, ?_⟩) (by assumption) ?_
            rotate_left
            · intro w hSw; (try dsimp only at hSw); go_simp; try with_reducible rfl
            (try simp only [Act.put, List.setIfInBounds_toArray, List.set_cons_zero, List.set_cons_succ])
            refine wpAnyH_take (i := 7) (oi := ⟨some 69, _, _, _, _, _⟩) (v := ?_) rfl (by kernel_rfl) (by kernel_rfl) (by kernel_rfl) (fun _ _ _ h => h) (Or.inl ⟨by rfl, ?_⟩) (by assumption) ?_
            rotate_left
            · intro w hSw; (try dsimp only at hSw); go_simp; try with_reducible rfl
            (try simp only [Act.put, List.setIfInBounds_toArray, List.set_cons_zero, List.set_cons_succ])
            refine wpAnyH_take (i := 8) (oi := ⟨some 70, _, _, _, _, _⟩) (v := ?_) rfl (by kernel_rfl) (by kernel_rfl) (by kernel_rfl) (fun _ _ _ h => h) (Or.inl ⟨by rfl, ?_⟩) (by assumption) ?_
            rotate_left
            · intro w hSw; (try dsimp only at hSw); go_simp; try with_reducible rfl
            (try simp only [Act.put, List.setIfInBounds_toArray, List.set_cons_zero, List.set_cons_succ])
            refine wpAnyH_ready (rs := [9]) (by kernel_rfl) (by simp) ?_
            refine (AllReadyH.cons (o := ⟨some 12, _, _, _, _, _⟩) rfl (fun K hK => ?_) AllReadyH.nil)
            rw [if_pos (by rfl)]
            apply ow_alloc hN1
            rfl
            infer_instance
            intro g12 _ hN2
            refine hK.out _ _ ?_ (fun hHeld => ?_)
            · exact ⟨ldA (wordsV S.list) [_, _] hN2 (rfl) (rfl), ldRow hN2 (.tail _ (.tail _ (.tail _ (.head _)))) HVV.out⟩
            clear hK K
            (try simp only [Act.put, List.setIfInBounds_toArray, List.set_cons_zero, List.set_cons_succ])
            refine wpAnyH_ready (rs := [10]) (by kernel_rfl) (by simp) ?_
            refine (AllReadyH.cons (o := ⟨none, _, _, _, _, _⟩) rfl (fun K hK => ?_) AllReadyH.nil)
            rw [if_pos (by rfl)]
            apply ow_storeA [] hN2
            rfl
            exact rfl
            exact rfl
            infer_instance
            exact rfl
            exact rfl
            exact rfl
            intro _ hN3
            refine hK.out _ _ ?_ (fun hHeld => ?_)
            · exact ⟨ldA (wordsV S.list) [_, _] hN3 (rfl) (rfl), ldRow hN3 (.tail _ (.tail _ (.tail _ (.head _)))) HVV.out⟩
            clear hK K
            (try simp only [Act.put, List.setIfInBounds_toArray, List.set_cons_zero, List.set_cons_succ])
            refine wpAnyH_take (i := 11) (oi := ⟨some 13, _, _, _, _, _⟩) (v := ?_) rfl (by kernel_rfl) (by kernel_rfl) (by kernel_rfl) (fun _ _ _ h => h) (Or.inl ⟨by rfl, ?_⟩) (by assumption) ?_
            rotate_left
            · intro w hSw; (try dsimp only at hSw); go_simp; try with_reducible rfl
            (try simp only [Act.put, List.setIfInBounds_toArray, List.set_cons_zero, List.set_cons_succ])
            refine wpAnyH_done (by kernel_rfl) ?_ _
            clear hHeld
            go_wp2_with (first | go_big_skip | go_big_guard | fail)
            go_meet
            exact ⟨g12, rfl, rfl, hN3⟩
          · rw [if_pos (by rfl)]
            apply ow_alloc hD
            rfl
            infer_instance
            intro g12 _ hN4
            refine hK.out _ _ ?_ (fun hHeld => ?_)
            · exact ⟨ldA (wordsV S.list) [_, _] hN4 (rfl) (rfl), ldRow hN4 (.tail _ (.tail _ (.tail _ (.head _)))) HVV.out⟩
            clear hK K
            (try simp only [Act.put, List.setIfInBounds_toArray, List.set_cons_zero, List.set_cons_succ])
            refine wpAnyH_ready (rs := [5]) (by kernel_rfl) (by simp) ?_
            refine (AllReadyH.cons (o := ⟨some 68, _, _, _, _, _⟩) rfl (fun K hK => ?_) AllReadyH.nil)
            go_simp
            go_at_call 19
            refine (turn_any S p (some ⟨bq, 0, none⟩) 64 cq _ (Rd.rowP hN4 (.tail _ (.tail _ (.tail _ (.tail _ HM.out))))) HL.out).mono ?_
            rintro _ w7 ⟨h3, h4⟩
            rw [if_pos HL.out, ← HT.out] at h3
            subst h3
            have hN5 := St.call0 hN4 h4
            clear h4
            refine hK.out _ _ ?_ (fun hHeld => ?_)
            · exact ⟨ldA (wordsV S.list) [_, _] hN5 (rfl) (rfl), ldRow hN5 (.tail _ (.tail _ (.tail _ (.head _)))) HVV.out⟩
            clear hK K
            (try simp only [Act.put, List.setIfInBounds_toArray, List.set_cons_zero, List.set_cons_succ])
            refine wpAnyH_take (i := 6) (oi := ⟨some 62, _, _, _, _, _⟩) (v := ?_) rfl (by kernel_rfl) (by kernel_rfl) (by kernel_rfl) (fun _ _ _ h => h) (Or.inl ⟨by rfl, ?_⟩) (by assumption) ?_
            rotate_left
            · intro w hSw; (try dsimp only at hSw); go_simp; try with_reducible rfl
            (try simp only [Act.put, List.setIfInBounds_toArray, List.set_cons_zero, List.set_cons_succ])
            refine wpAnyH_take (i := 7) (oi := ⟨some 69, _, _, _, _, _⟩) (v := ?_) rfl (by kernel_rfl) (by kernel_rfl) (by kernel_rfl) (fun _ _ _ h => h) (Or.inl ⟨by rfl, ?_⟩) (by assumption) ?_
            rotate_left
            · intro w hSw; (try dsimp only at hSw); go_simp; try with_reducible rfl
            (try simp only [Act.put, List.setIfInBounds_toArray, List.set_cons_zero, List.set_cons_succ])
            refine wpAnyH_take (i := 8) (oi := ⟨some 70, _, _, _, _, _⟩) (v := ?_) rfl (by kernel_rfl) (by kernel_rfl) (by kernel_rfl) (fun _ _ _ h => h) (Or.inl ⟨by rfl, ?_⟩) (by assumption) ?_
            rotate_left
            · intro w hSw; (try dsimp only at hSw); go_simp; try with_reducible rfl
            (try simp only [Act.put, List.setIfInBounds_toArray, List.set_cons_zero, List.set_cons_succ])
            refine wpAnyH_ready (rs := [10]) (by kernel_rfl) (by simp) ?_
            refine (AllReadyH.cons (o := ⟨none, _, _, _, _, _⟩) rfl (fun K hK => ?_) AllReadyH.nil)
            rw [if_pos (by rfl)]
            apply ow_storeA [] hN5
            rfl
            exact rfl
            exact rfl
            infer_instance
            exact rfl
            exact rfl
            exact rfl
            intro _ hN6
            refine hK.out _ _ ?_ (fun hHeld => ?_)
            · exact ⟨ldA (wordsV S.list) [_, _] hN6 (rfl) (rfl), ldRow hN6 (.tail _ (.tail _ (.tail _ (.head _)))) HVV.out⟩
            clear hK K
            (try simp only [Act.put, List.setIfInBounds_toArray, List.set_cons_zero, List.set_cons_succ])
            refine wpAnyH_take (i := 11) (oi := ⟨some 13, _, _, _, _, _⟩) (v := ?_) rfl (by kernel_rfl) (by kernel_rfl) (by kernel_rfl) (fun _ _ _ h => h) (Or.inl ⟨by rfl, ?_⟩) (by assumption) ?_
            rotate_left
            · intro w hSw; (try dsimp only at hSw); go_simp; try with_reducible rfl
            (try simp only [Act.put, List.setIfInBounds_toArray, List.set_cons_zero, List.set_cons_succ])
            refine wpAnyH_done (by kernel_rfl) ?_ _
            clear hHeld
            go_wp2_with (first | go_big_skip | go_big_guard | fail)
            go_meet
            exact ⟨g12, rfl, rfl, hN6⟩
        case rest =>
          clear hst hc
          obtain ⟨g12, rfl, rfl, hst⟩ := hcut
          go_wp2_with (first | go_big_skip | go_big_guard | (refine wl_loadE rfl rfl rfl ?_; first | refine ⟨_, Loads.atA (wordsV T.list) [] hst (rfl) (rfl), ?_⟩) | (refine wl_storeA [_, _] hst rfl rfl rfl rfl rfl rfl rfl ?_; intro w9 hst2; clear hst) | (refine wl_loadE rfl rfl rfl ?_; refine ⟨_, Loads.rowAt hst2 (.tail _ (.tail _ (.tail _ (.head _)))) HVV.out, ?_⟩) | (apply wl_appP [_] hst2; rfl; rfl; exact rfl; exact rfl; infer_instance; infer_instance; infer_instance; infer_instance; exact (Rd.rowP hst2 (.tail _ (.tail _ (.tail _ (.tail _ HM.out))))); exact ones_bytesV _; rfl; exact isB_bytes _; (unfold maxLen; omega); intro v9 w10 hst4 _; clear hst2))
          have hst5 : St w [] w10 (.rowP isB v9 5 1 (64 * (i + 1)) (bytesV ((ps.take (i + 1)).flatten)) :: .blk g8 36 (wordsV (foldP ps (i + 1)).list) :: .row (.slice (some ⟨b, off, none⟩) N cx) 22 1 N vs :: rowsB 5 vs ps) := by
            rw [HTF.out, bytesV_append, HS.out]
            exact St.sub hst4 (.cons _ (List.Sublist.refl _))
          clear hst4
          go_roundw
          case rel => exact ⟨i + 1, by omega, (by congr 1 <;> push_cast <;> try omega), hst5⟩
          case measure => simp [intOf]; omega
      · have d2 : ((i : Int) == (k : Int)) = false := by simp; omega
        clear hik
        go_wp2_with (first | go_big_skip | go_big_guard | (refine wl_loadE rfl rfl rfl ?_; refine ⟨_, Loads.rowAt hst (.tail _ (.tail _ (.head _))) HVV.out, ?_⟩))
        go_cut [12, 13] (fun a b2 wx => ∃ g12, a = .pointer (some ⟨g12, 0, none⟩) ∧ b2 = .int .i64 0 ∧ St w [] wx (.blk g12 36 (wordsV T.list) :: .rowP isB u7 5 1 (64 * i) (bytesV ((ps.take i).flatten)) :: .blk g8 36 (wordsV S.list) :: .row (.slice (some ⟨b, off, none⟩) N cx) 22 1 N vs :: rowsB 5 vs ps))
        case first =>
          have hD := hst.drew
          clear hst
          refine wp_region_held_drew (S := (fun w' => (loadVarH 36 ⟨g8, 0, none⟩).run Try.prog w' = .ok (.agg (List.toArray (wordsV S.list))) w' ∧ (loadVarH 22 ⟨b, off + i, none⟩).run Try.prog w' = .ok (.slice (some ⟨bq, 0, none⟩) 64 cq) w')) (by kernel_rfl) (by exact ⟨ldA (wordsV S.list) [_] hD (rfl) (rfl), ldRow hD (.tail _ (.tail _ (.head _))) HVV.out⟩) (fun hHeld => ?_)
          refine wpAnyH_take (i := 0) (oi := ⟨some 63, _, _, _, _, _⟩) (v := ?_) rfl (by kernel_rfl) (by kernel_rfl) (by kernel_rfl) (fun _ _ _ h => h) (Or.inl ⟨by rfl, ?_⟩) (by assumption) ?_
          rotate_left
          · intro w hSw; (try dsimp only at hSw); go_simp; try with_reducible rfl
          (try simp only [Act.put, List.setIfInBounds_toArray, List.set_cons_zero, List.set_cons_succ])
          refine wpAnyH_take (i := 1) (oi := ⟨some 64, _, _, _, _, _⟩) (v := ?_) rfl (by kernel_rfl) (by kernel_rfl) (by kernel_rfl) (fun _ _ _ h => h) (Or.inl ⟨by rfl, ?_⟩) (by assumption) ?_
          rotate_left
          · intro w hSw; (try dsimp only at hSw); go_simp; try with_reducible rfl
          (try simp only [Act.put, List.setIfInBounds_toArray, List.set_cons_zero, List.set_cons_succ])
          refine wpAnyH_take (i := 2) (oi := ⟨some 65, _, _, _, _, _⟩) (v := ?_) rfl (by kernel_rfl) (by kernel_rfl) (by kernel_rfl) (fun _ _ _ h => h) (Or.inl ⟨by rfl, ?_⟩) (by assumption) ?_
          rotate_left
          · intro w hSw; (try dsimp only at hSw); go_simp; try with_reducible rfl
          (try simp only [Act.put, List.setIfInBounds_toArray, List.set_cons_zero, List.set_cons_succ])
          refine wpAnyH_take (i := 3) (oi := ⟨some 66, _, _, _, _, _⟩) (v := ?_) rfl (by kernel_rfl) (by kernel_rfl) (by kernel_rfl) (fun _ _ _ h => h) (Or.inl ⟨by rfl, ?_⟩) (by assumption) ?_
          rotate_left
          · intro w hSw; (try dsimp only at hSw); go_simp; try with_reducible rfl
          (try simp only [Act.put, List.setIfInBounds_toArray, List.set_cons_zero, List.set_cons_succ])
          refine wpAnyH_take (i := 4) (oi := ⟨some 67, _, _, _, _, _⟩) (v := ?_) rfl (by kernel_rfl) (by kernel_rfl) (by kernel_rfl) (fun _ _ _ h => h) (Or.inl ⟨by rfl, ?_⟩) (by assumption) ?_
          rotate_left
          · intro w hSw; (try dsimp only at hSw); go_simp; try with_reducible rfl
          (try simp only [Act.put, List.setIfInBounds_toArray, List.set_cons_zero, List.set_cons_succ])
          refine wpAnyH_ready (rs := [5, 9]) (by kernel_rfl) (by simp) ?_
          refine (AllReadyH.cons (o := ⟨some 68, _, _, _, _, _⟩) rfl (fun K hK => ?_) (AllReadyH.cons (o := ⟨some 12, _, _, _, _, _⟩) rfl (fun K hK => ?_) AllReadyH.nil))
          · go_simp
            go_at_call 19
            refine (turn_any S p (some ⟨bq, 0, none⟩) 64 cq _ (Rd.rowP hD (.tail _ (.tail _ (.tail _ HM.out)))) HL.out).mono ?_
            rintro _ w7 ⟨h3, h4⟩
            rw [if_pos HL.out, ← HT.out] at h3
            subst h3
            have hN7 := St.call0 hD h4
            clear h4
            refine hK.out _ _ ?_ (fun hHeld => ?_)
            · exact ⟨ldA (wordsV S.list) [_] hN7 (rfl) (rfl), ldRow hN7 (.tail _ (.tail _ (.head _))) HVV.out⟩
            clear hK K
            (try simp only [Act.put, List.setIfInBounds_toArray, List.set_cons_zero, List.set_cons_succ])
            refine wpAnyH_take (i := 6) (oi := ⟨some 62, _, _, _, _, _⟩) (v := ?_) rfl (by kernel_rfl) (by kernel_rfl) (by kernel_rfl) (fun _ _ _ h => h) (Or.inl ⟨by rfl, ?_⟩) (by assumption) ?_
            rotate_left
            · intro w hSw; (try dsimp only at hSw); go_simp; try with_reducible rfl
            (try simp only [Act.put, List.setIfInBounds_toArray, List.set_cons_zero, List.set_cons_succ])
            refine wpAnyH_take (i := 7) (oi := ⟨some 69, _, _, _, _, _⟩) (v := ?_) rfl (by kernel_rfl) (by kernel_rfl) (by kernel_rfl) (fun _ _ _ h => h) (Or.inl ⟨by rfl, ?_⟩) (by assumption) ?_
            rotate_left
            · intro w hSw; (try dsimp only at hSw); go_simp; try with_reducible rfl
            (try simp only [Act.put, List.setIfInBounds_toArray, List.set_cons_zero, List.set_cons_succ])
            refine wpAnyH_take (i := 8) (oi := ⟨some 70, _, _, _, _, _⟩) (v := ?_) rfl (by kernel_rfl) (by kernel_rfl) (by kernel_rfl) (fun _ _ _ h => h) (Or.inl ⟨by rfl, ?_⟩) (by assumption) ?_
            rotate_left
            · intro w hSw; (try dsimp only at hSw); go_simp; try with_reducible rfl
            (try simp only [Act.put, List.setIfInBounds_toArray, List.set_cons_zero, List.set_cons_succ])
            refine wpAnyH_ready (rs := [9]) (by kernel_rfl) (by simp) ?_
            refine (AllReadyH.cons (o := ⟨some 12, _, _, _, _, _⟩) rfl (fun K hK => ?_) AllReadyH.nil)
            rw [if_pos (by rfl)]
            apply ow_alloc hN7
            rfl
            infer_instance
            intro g12 _ hN8
            refine hK.out _ _ ?_ (fun hHeld => ?_)
            · exact ⟨ldA (wordsV S.list) [_, _] hN8 (rfl) (rfl), ldRow hN8 (.tail _ (.tail _ (.tail _ (.head _)))) HVV.out⟩
            clear hK K
            (try simp only [Act.put, List.setIfInBounds_toArray, List.set_cons_zero, List.set_cons_succ])
            refine wpAnyH_ready (rs := [10]) (by kernel_rfl) (by simp) ?_
            refine (AllReadyH.cons (o := ⟨none, _, _, _, _, _⟩) rfl (fun K hK => ?_) AllReadyH.nil)
            rw [if_pos (by rfl)]
            apply ow_storeA [] hN8
            rfl
            exact rfl
            exact rfl
            infer_instance
            exact rfl
            exact rfl
            exact rfl
            intro _ hN9
            refine hK.out _ _ ?_ (fun hHeld => ?_)
            · exact ⟨ldA (wordsV S.list) [_, _] hN9 (rfl) (rfl), ldRow hN9 (.tail _ (.tail _ (.tail _ (.head _)))) HVV.out⟩
            clear hK K
            (try simp only [Act.put, List.setIfInBounds_toArray, List.set_cons_zero, List.set_cons_succ])
            refine wpAnyH_take (i := 11) (oi := ⟨some 13, _, _, _, _, _⟩) (v := ?_) rfl (by kernel_rfl) (by kernel_rfl) (by kernel_rfl) (fun _ _ _ h => h) (Or.inl ⟨by rfl, ?_⟩) (by assumption) ?_
            rotate_left
            · intro w hSw; (try dsimp only at hSw); go_simp; try with_reducible rfl
            (try simp only [Act.put, List.setIfInBounds_toArray, List.set_cons_zero, List.set_cons_succ])
            refine wpAnyH_done (by kernel_rfl) ?_ _
            clear hHeld
            go_wp2_with (first | go_big_skip | go_big_guard | fail)
            go_meet
            exact ⟨g12, rfl, rfl, hN9⟩
          · rw [if_pos (by rfl)]
            apply ow_alloc hD
            rfl
            infer_instance
            intro g12 _ hN10
            refine hK.out _ _ ?_ (fun hHeld => ?_)
            · exact ⟨ldA (wordsV S.list) [_, _] hN10 (rfl) (rfl), ldRow hN10 (.tail _ (.tail _ (.tail _ (.head _)))) HVV.out⟩
            clear hK K
            (try simp only [Act.put, List.setIfInBounds_toArray, List.set_cons_zero, List.set_cons_succ])
            refine wpAnyH_ready (rs := [5]) (by kernel_rfl) (by simp) ?_
            refine (AllReadyH.cons (o := ⟨some 68, _, _, _, _, _⟩) rfl (fun K hK => ?_) AllReadyH.nil)
            go_simp
            go_at_call 19
            refine (turn_any S p (some ⟨bq, 0, none⟩) 64 cq _ (Rd.rowP hN10 (.tail _ (.tail _ (.tail _ (.tail _ HM.out))))) HL.out).mono ?_
            rintro _ w7 ⟨h3, h4⟩
            rw [if_pos HL.out, ← HT.out] at h3
            subst h3
            have hN11 := St.call0 hN10 h4
            clear h4
            refine hK.out _ _ ?_ (fun hHeld => ?_)
            · exact ⟨ldA (wordsV S.list) [_, _] hN11 (rfl) (rfl), ldRow hN11 (.tail _ (.tail _ (.tail _ (.head _)))) HVV.out⟩
            clear hK K
            (try simp only [Act.put, List.setIfInBounds_toArray, List.set_cons_zero, List.set_cons_succ])
            refine wpAnyH_take (i := 6) (oi := ⟨some 62, _, _, _, _, _⟩) (v := ?_) rfl (by kernel_rfl) (by kernel_rfl) (by kernel_rfl) (fun _ _ _ h => h) (Or.inl ⟨by rfl, ?_⟩) (by assumption) ?_
            rotate_left
            · intro w hSw; (try dsimp only at hSw); go_simp; try with_reducible rfl
            (try simp only [Act.put, List.setIfInBounds_toArray, List.set_cons_zero, List.set_cons_succ])
            refine wpAnyH_take (i := 7) (oi := ⟨some 69, _, _, _, _, _⟩) (v := ?_) rfl (by kernel_rfl) (by kernel_rfl) (by kernel_rfl) (fun _ _ _ h => h) (Or.inl ⟨by rfl, ?_⟩) (by assumption) ?_
            rotate_left
            · intro w hSw; (try dsimp only at hSw); go_simp; try with_reducible rfl
            (try simp only [Act.put, List.setIfInBounds_toArray, List.set_cons_zero, List.set_cons_succ])
            refine wpAnyH_take (i := 8) (oi := ⟨some 70, _, _, _, _, _⟩) (v := ?_) rfl (by kernel_rfl) (by kernel_rfl) (by kernel_rfl) (fun _ _ _ h => h) (Or.inl ⟨by rfl, ?_⟩) (by assumption) ?_
            rotate_left
            · intro w hSw; (try dsimp only at hSw); go_simp; try with_reducible rfl
            (try simp only [Act.put, List.setIfInBounds_toArray, List.set_cons_zero, List.set_cons_succ])
            refine wpAnyH_ready (rs := [10]) (by kernel_rfl) (by simp) ?_
            refine (AllReadyH.cons (o := ⟨none, _, _, _, _, _⟩) rfl (fun K hK => ?_) AllReadyH.nil)
            rw [if_pos (by rfl)]
            apply ow_storeA [] hN11
            rfl
            exact rfl
            exact rfl
            infer_instance
            exact rfl
            exact rfl
            exact rfl
            intro _ hN12
            refine hK.out _ _ ?_ (fun hHeld => ?_)
            · exact ⟨ldA (wordsV S.list) [_, _] hN12 (rfl) (rfl), ldRow hN12 (.tail _ (.tail _ (.tail _ (.head _)))) HVV.out⟩
            clear hK K
            (try simp only [Act.put, List.setIfInBounds_toArray, List.set_cons_zero, List.set_cons_succ])
            refine wpAnyH_take (i := 11) (oi := ⟨some 13, _, _, _, _, _⟩) (v := ?_) rfl (by kernel_rfl) (by kernel_rfl) (by kernel_rfl) (fun _ _ _ h => h) (Or.inl ⟨by rfl, ?_⟩) (by assumption) ?_
            rotate_left
            · intro w hSw; (try dsimp only at hSw); go_simp; try with_reducible rfl
            (try simp only [Act.put, List.setIfInBounds_toArray, List.set_cons_zero, List.set_cons_succ])
            refine wpAnyH_done (by kernel_rfl) ?_ _
            clear hHeld
            go_wp2_with (first | go_big_skip | go_big_guard | fail)
            go_meet
            exact ⟨g12, rfl, rfl, hN12⟩
        case rest =>
          clear hst hc
          obtain ⟨g12, rfl, rfl, hst⟩ := hcut
          go_wp2_with (first | go_big_skip | go_big_guard | (refine wl_loadE rfl rfl rfl ?_; first | refine ⟨_, Loads.atA (wordsV T.list) [] hst (rfl) (rfl), ?_⟩) | (refine wl_storeA [_, _] hst rfl rfl rfl rfl rfl rfl rfl ?_; intro w9 hst2; clear hst) | (refine wl_loadE rfl rfl rfl ?_; refine ⟨_, Loads.rowAt hst2 (.tail _ (.tail _ (.tail _ (.head _)))) HVV.out, ?_⟩) | (apply wl_appP [_] hst2; rfl; rfl; exact rfl; exact rfl; infer_instance; infer_instance; infer_instance; infer_instance; exact (Rd.rowP hst2 (.tail _ (.tail _ (.tail _ (.tail _ HM.out))))); exact ones_bytesV _; rfl; exact isB_bytes _; (unfold maxLen; omega); intro v9 w10 hst4 _; clear hst2))
          have hst5 : St w [] w10 (.rowP isB v9 5 1 (64 * (i + 1)) (bytesV ((ps.take (i + 1)).flatten)) :: .blk g8 36 (wordsV (foldP ps (i + 1)).list) :: .row (.slice (some ⟨b, off, none⟩) N cx) 22 1 N vs :: rowsB 5 vs ps) := by
            rw [HTF.out, bytesV_append, HS.out]
            exact St.sub hst4 (.cons _ (List.Sublist.refl _))
          clear hst4
          go_roundw
          case rel => exact ⟨i + 1, by omega, (by congr 1 <;> push_cast <;> try omega), hst5⟩
          case measure => simp [intOf]; omega
    · have e : i = N := by omega
      subst e
      have d1 : decide ((i : Int) < (i : Int)) = false := by simp
      obtain ⟨S, hS⟩ : ∃ S, S = foldP ps i := ⟨_, rfl⟩
      have HSB := hid (show S.bytes = sumB bs by rw [hS, foldP_all HNP.out, HP.out]; rfl)
      rw [← hS] at hst
      have hflat : (ps.take i).flatten = filled bs := by rw [HNP.out, List.take_length, HP.out, flat_pieces]
      obtain ⟨F, hF⟩ : ∃ F, F = filled bs := ⟨_, rfl⟩
      have HF := hid hF
      obtain ⟨LN, hLN⟩ : ∃ LN, LN = 64 * i := ⟨_, rfl⟩
      have hLN2 : LN = n + 9 + noughts n := by
        have h1 := HPL.out
        rw [← HNP.out, length_filled, Hn.out] at h1
        omega
      have hno : noughts n < 64 := by unfold noughts; omega
      rw [hflat, ← hF, ← hLN] at hst
      obtain ⟨Rr, hRr⟩ : ∃ Rr : List HA, Rr = .row (.slice ax i cx) 22 1 i vs :: rowsB 5 vs ps := ⟨_, rfl⟩
      rw [← hRr] at hst
      obtain ⟨a7, c7, rfl⟩ := St.rowPSlice [] hst
      have k1 := K1.out
      have z1 : IntKind.i64.wrap ((n : Int) + 9) = (n : Int) + 9 := IntWalk.i64_in _ (by omega)
      have z2 : IntKind.i64.wrap ((n : Int) + 72) = (n : Int) + 72 := IntWalk.i64_in _ (by omega)
      have z3 : IntKind.i64.wrap ((LN : Int) - 2) = (LN : Int) - 2 := IntWalk.i64_in _ (by omega)
      have d3 : decide ((LN : Int) < (n : Int) + 9) = false := decide_eq_false (by omega)
      have d4 : decide ((n : Int) + 72 < (LN : Int)) = false := decide_eq_false (by omega)
      have HLN := hid hLN2
      have hlt : LN ≤ 2000 := by omega
      clear hflat hF hLN hS hRr hLN2 k1
      go_wp2_with (first | go_big_skip | go_big_guard | (go_at_call 25; refine (copyBytes_any _ n bs _ (Rd.old hst hA) (by have := K1.out; omega)).mono ?_; rintro _ w6 ⟨u, rfl, h4⟩; have hst2 := St.call hst h4; clear h4 hst) | (apply wl_bsX [.int _ _] [.int _ _] hst2; rfl; rfl; exact rfl; exact rfl; infer_instance; infer_instance; rfl; rfl; rfl; intro gb _ hst3; clear hst2) | (apply wl_appP [_] hst3; rfl; rfl; exact rfl; exact rfl; infer_instance; infer_instance; infer_instance; infer_instance; exact (Rd.blk0 hst3 rfl (by decide)); exact rfl; rfl; rfl; (have := K1.out; unfold maxLen; omega); intro v1 w9 hst4 _; clear hst3))
      have hst5 : St w [] w9 (.rowP isB v1 5 1 (n + 1 + 0) (bytesV (padB bs 0)) :: .rowP isB (.slice a7 LN c7) 5 1 LN (bytesV F) :: .blk g8 36 (wordsV S.list) :: Rr) := by
        have h := St.sub hst4 (.cons _ (List.Sublist.refl _))
        have e : bytesV bs ++ [.int .u8 128] = bytesV (padB bs 0) := by simp [padB, bytesV]
        rw [← e]
        exact h
      clear hst4
      go_loopw [15] (fun u wr => ∃ j : Nat, j ≤ noughts n + 6 ∧ St w [] wr (.rowP isB u 5 1 (n + 1 + j) (bytesV (padB bs j)) :: .rowP isB (.slice a7 LN c7) 5 1 LN (bytesV F) :: .blk g8 36 (wordsV S.list) :: Rr)) (fun u _ => n + 1 + (noughts n + 6) - lenS u)
      case atStart => exact ⟨0, by omega, hst5⟩
      case round =>
        clear hst5
        obtain ⟨j, hj, hst⟩ := hrel
        obtain ⟨au, cu, hu⟩ := St.rowPSlice [] hst
        obtain ⟨L, hL⟩ : ∃ L, L = n + 1 + j := ⟨_, rfl⟩
        have hlen : (Builtin.len_ #[22] 3 #[u15]).run Try.prog wr = .ok (.int .i64 (L : Int)) wr := by subst hu; rw [hL]; rfl
        have hL1 : L ≤ 200000 := by have := K1.out; omega
        have Hu := hid hu
        clear hu
        by_cases hjn : j < noughts n + 6
        · have d5 : decide ((L : Int) < (LN : Int) - 2) = true := decide_eq_true (by have := HLN.out; omega)
          rw [← hL] at hst
          have HL := hid hL
          clear hL
          go_wp2_with (first | go_big_skip | go_big_guard | (apply wl_bsX [.int _ _] [.int _ _] hst; rfl; rfl; exact rfl; exact rfl; infer_instance; infer_instance; rfl; rfl; rfl; intro gb _ hst2; clear hst) | (apply wl_appP [_] hst2; rfl; rfl; exact rfl; exact rfl; infer_instance; infer_instance; infer_instance; infer_instance; exact (Rd.blk0 hst2 rfl (by decide)); exact rfl; rfl; rfl; (unfold maxLen; omega); intro v1 w9 hst3 _; clear hst2))
          have hst5 : St w [] w9 (.rowP isB v1 5 1 (n + 1 + (j + 1)) (bytesV (padB bs (j + 1))) :: .rowP isB (.slice a7 LN c7) 5 1 LN (bytesV F) :: .blk g8 36 (wordsV S.list) :: Rr) := by
            have h := St.sub hst3 (.cons _ (List.Sublist.refl _))
            rw [← padB_succ, show n + 1 + (j + 1) = L + 1 by rw [HL.out]; omega]
            exact h
          clear hst3
          obtain ⟨a9, c9, hu9⟩ := St.rowPSlice [] hst5
          have Hu9 := hid hu9
          clear hu9
          go_roundw
          case rel => exact ⟨j + 1, by omega, hst5⟩
          case measure =>
            rw [Hu9.out, Hu.out]
            show n + 1 + (noughts n + 6) - (n + 1 + (j + 1)) < n + 1 + (noughts n + 6) - (n + 1 + j)
            omega
        · have ej : j = noughts n + 6 := by omega
          subst ej
          have d5 : decide ((L : Int) < (LN : Int) - 2) = false := decide_eq_false (by have := HLN.out; omega)
          have HL := hid hL
          rw [← hL] at hst
          obtain ⟨Q, hQ⟩ : ∃ Q, Q = n / 32 := ⟨_, rfl⟩
          obtain ⟨Y1, hY1⟩ : ∃ Y, Y = UInt8.ofNat Q := ⟨_, rfl⟩
          obtain ⟨Y2, hY2⟩ : ∃ Y, Y = UInt8.ofNat (8 * n) := ⟨_, rfl⟩
          have q1 : Int.tdiv (n : Int) 32 = (Q : Int) := by rw [Int.tdiv_eq_ediv_of_nonneg (by omega)]; omega
          have q2 : (n : Int) / 32 = (Q : Int) := by omega
          have k1 := K1.out
          have z4 : IntKind.i64.wrap (8 * (n : Int)) = 8 * (n : Int) := IntWalk.i64_in _ (by omega)
          have f1 : (Q : Int) % 256 = (Y1.toNat : Int) := by rw [hY1, UInt8.toNat_ofNat']; omega
          have f1' : IntKind.u8.wrap (Q : Int) = (Y1.toNat : Int) := f1
          have f2 : (8 * (n : Int)) % 256 = (Y2.toNat : Int) := by rw [hY2, UInt8.toNat_ofNat']; omega
          have f2' : IntKind.u8.wrap (8 * (n : Int)) = (Y2.toNat : Int) := f2
          have HW := hid (show padB bs (noughts n + 6) ++ [Y1, Y2] = F by rw [hY1, hY2, hQ, want_filled bs Hn.out k1, HF.out])
          have HL2 := hid (show L + 2 = LN by rw [HLN.out, hL]; omega)
          clear hL hY1 hY2 hQ k1
          go_wp2_with (first | go_big_skip | go_big_guard | (apply wl_bsX [.int _ _, .int _ _] [.int _ _, .int _ _] hst; rfl; rfl; exact rfl; exact rfl; infer_instance; infer_instance; rfl; rfl; rfl; intro gb _ hst2; clear hst) | (apply wl_appP (ys := bytesV [Y1, Y2]) [_] hst2; rfl; rfl; exact rfl; exact rfl; infer_instance; infer_instance; infer_instance; infer_instance; exact (Rd.blk0 hst2 rfl (by decide)); exact rfl; rfl; exact isB_bytes _; (unfold maxLen; omega); intro v1 w9 hst3 _; clear hst2; rw [← bytesV_append, HW.out, HL2.out] at hst3) | (go_at_call 26; refine (sameBytes_any _ v1 LN LN F F _ (Rd.rowP hst3 (.tail _ (.tail _ (.head _)))) (Rd.rowP hst3 (.tail _ (.head _)))).mono ?_; rw [beq_self_eq_true]; rintro _ _ ⟨rfl, h4⟩; have hst4 := St.call0 hst3 h4; clear h4 hst3) | (go_at_call 14; refine (sum_any ao n c bs _ (Rd.old hst4 hA) Hn.out (by have := K1.out; omega)).mono ?_; rw [← HSB.out]; rintro _ _ ⟨rfl, h4⟩; have hst6 := St.call0 hst4 h4; clear h4 hst4) | (refine wl_alloc hst6 rfl rfl ?_; intro g16 _ hst7; clear hst6) | (refine wl_storeA [] hst7 rfl rfl rfl rfl rfl (ones_bytesV _) rfl ?_; intro w10 hst8; clear hst7))
          have hst9 : St w [] w10 [.blk g16 29 (bytesV S.bytes), .blk g8 36 (wordsV S.list)] := by
            refine St.sub hst8 (.cons_cons _ (.cons _ (.cons _ (.cons _ (.cons_cons _ (List.nil_sublist _))))))
          clear hst8
          go_loopw [17] (fun q wr => ∃ i : Nat, i ≤ 32 ∧ q = .int .i64 i ∧ St w [] wr [.blk g16 29 (bytesV S.bytes), .blk g8 36 (wordsV S.list)]) (fun q _ => 32 - (intOf q).toNat)
          case atStart => exact ⟨0, by omega, rfl, hst9⟩
          case round =>
            clear hst9
            obtain ⟨i, hi, rfl, hst⟩ := hrel
            by_cases hi32 : i < 32
            · obtain ⟨j, hj⟩ : ∃ j, j = i / 4 := ⟨_, rfl⟩
              obtain ⟨r, hr⟩ : ∃ r, r = i % 4 := ⟨_, rfl⟩
              have hj8 : j < 8 := by omega
              have hr4 : r < 4 := by omega
              have hij : i = 4 * j + r := by omega
              have q1 : Int.tdiv (i : Int) 4 = (j : Int) := by rw [Int.tdiv_eq_ediv_of_nonneg (by omega)]; omega
              have q2 : (i : Int) / 4 = (j : Int) := by omega
              have q3 : Int.tmod (i : Int) 4 = (r : Int) := by rw [Int.tmod_eq_emod_of_nonneg (by omega)]; omega
              have q4 : (i : Int) % 4 = (r : Int) := by omega
              obtain ⟨x, hx⟩ : ∃ x, x = S.list.getD j 0 := ⟨_, rfl⟩
              have gx := words_get S.list (show j < S.list.length from hj8)
              rw [← hx] at gx
              have HX := hid hx
              have GX := hid gx
              obtain ⟨Y, hY⟩ : ∃ Y, Y = UInt8.ofNat (x >>> (24 - 8 * r)).toNat := ⟨_, rfl⟩
              obtain ⟨X, hX⟩ : ∃ X : Int, X = wI (x >>> (24 - 8 * r)) := ⟨_, rfl⟩
              have f1 : ∀ T, binOp .shr T (.int .u32 (wI x)) (.int .i64 (24 - 8 * (r : Int))) = pure (.int .u32 X) := by
                intro T
                rw [show (24 - 8 * (r : Int)) = ((24 - 8 * r : Nat) : Int) by omega, shrN T x .i64 (24 - 8 * r) (by omega), hX]
              have f3 : X % 256 = (Y.toNat : Int) := by
                rw [hX, hY, byte_of]
              have f2 : IntKind.u8.wrap X = (Y.toNat : Int) := f3
              have GY := hid (show (bytesV S.bytes)[i]? = some (.int .u8 (Y.toNat : Int)) by
                have h1 : S.bytes.getD i 0 = Y := by rw [hij, byteS_at S j r hj8 hr4, ← HX.out, hY]
                have h2 : i < S.bytes.length := by rw [length_bytesS]; exact hi32
                rw [List.getD, List.getElem?_eq_getElem h2] at h1
                rw [bytesV, List.getElem?_map, List.getElem?_eq_getElem h2]
                show some (Value.int .u8 ((S.bytes[i]).toNat : Int)) = _
                rw [show S.bytes[i] = Y from h1])
              have z0 : IntKind.i64.wrap (8 * (r : Int)) = 8 * (r : Int) := IntWalk.i64_in _ (by omega)
              have zj : IntKind.i64.wrap (j : Int) = (j : Int) := IntWalk.i64_in _ (by omega)
              have z1 : IntKind.i64.wrap (24 - 8 * (r : Int)) = 24 - 8 * (r : Int) := IntWalk.i64_in _ (by omega)
              have b1 : (i : Int) < 32 := by omega
              have b2 : (j : Int) < 8 := by omega
              have d9 : ((Y.toNat : Int) != (Y.toNat : Int)) = false := by simp
              clear hX hY hx gx hij hj hr
              go_wp2_with (first | go_big_skip | go_big_guard | fail)
              have hD := hst.drew
              clear hst
              refine wp_region_held_drew (S := (fun w' => (loadVarH 5 ⟨g16, i, none⟩).run Try.prog w' = .ok (.int .u8 (Y.toNat : Int)) w' ∧ (loadVarH 35 ⟨g8, j, none⟩).run Try.prog w' = .ok (.int .u32 (wI x)) w')) (by kernel_rfl) (by exact ⟨ldS [] hD (GY.out), ldS [_] hD (GX.out)⟩) (fun hHeld => ?_)
              refine wpAnyH_take (i := 0) (oi := ⟨some 127, _, _, _, _, _⟩) (v := ?_) rfl (by kernel_rfl) (by kernel_rfl) (by kernel_rfl) (fun _ _ _ h => h) (Or.inl ⟨by rfl, ?_⟩) (by assumption) ?_
              rotate_left
              · intro w hSw; (try dsimp only at hSw); go_simp; try with_reducible rfl
              (try simp only [Act.put, List.setIfInBounds_toArray, List.set_cons_zero, List.set_cons_succ])
              refine wpAnyH_take (i := 3) (oi := ⟨some 130, _, _, _, _, _⟩) (v := ?_) rfl (by kernel_rfl) (by kernel_rfl) (by kernel_rfl) (fun _ _ _ h => h) (Or.inl ⟨by rfl, ?_⟩) (by assumption) ?_
              rotate_left
              · intro w hSw; (try dsimp only at hSw); go_simp; try with_reducible rfl
              (try simp only [Act.put, List.setIfInBounds_toArray, List.set_cons_zero, List.set_cons_succ])
              refine wpAnyH_take (i := 7) (oi := ⟨some 134, _, _, _, _, _⟩) (v := ?_) rfl (by kernel_rfl) (by kernel_rfl) (by kernel_rfl) (fun _ _ _ h => h) (Or.inl ⟨by rfl, ?_⟩) (by assumption) ?_
              rotate_left
              · intro w hSw; (try dsimp only at hSw); go_simp; try with_reducible rfl
              (try simp only [Act.put, List.setIfInBounds_toArray, List.set_cons_zero, List.set_cons_succ])
              refine wpAnyH_take (i := 1) (oi := ⟨some 128, _, _, _, _, _⟩) (v := ?_) rfl (by kernel_rfl) (by kernel_rfl) (by kernel_rfl) (fun _ _ _ h => h) (Or.inl ⟨by rfl, ?_⟩) (by assumption) ?_
              rotate_left
              · intro w hSw; (try dsimp only at hSw); go_simp; try with_reducible rfl
              (try simp only [Act.put, List.setIfInBounds_toArray, List.set_cons_zero, List.set_cons_succ])
              refine wpAnyH_take (i := 4) (oi := ⟨some 131, _, _, _, _, _⟩) (v := ?_) rfl (by kernel_rfl) (by kernel_rfl) (by kernel_rfl) (fun _ _ _ h => h) (Or.inl ⟨by rfl, ?_⟩) (by assumption) ?_
              rotate_left
              · intro w hSw; (try dsimp only at hSw); go_simp; try with_reducible rfl
              (try simp only [Act.put, List.setIfInBounds_toArray, List.set_cons_zero, List.set_cons_succ])
              refine wpAnyH_take (i := 8) (oi := ⟨some 135, _, _, _, _, _⟩) (v := ?_) rfl (by kernel_rfl) (by kernel_rfl) (by kernel_rfl) (fun _ _ _ h => h) (Or.inl ⟨by rfl, ?_⟩) (by assumption) ?_
              rotate_left
              · intro w hSw; (try dsimp only at hSw); go_simp; try with_reducible rfl
              (try simp only [Act.put, List.setIfInBounds_toArray, List.set_cons_zero, List.set_cons_succ])
              refine wpAnyH_take (i := 2) (oi := ⟨some 129, _, _, _, _, _⟩) (v := ?_) rfl (by kernel_rfl) (by kernel_rfl) (by kernel_rfl) (fun _ _ _ h => h) (Or.inl ⟨by rfl, ?_⟩) (by assumption) ?_
              rotate_left
              · intro w hSw; (try dsimp only at hSw); go_simp; try with_reducible rfl
              (try simp only [Act.put, List.setIfInBounds_toArray, List.set_cons_zero, List.set_cons_succ])
              refine wpAnyH_take (i := 5) (oi := ⟨some 132, _, _, _, _, _⟩) (v := ?_) rfl (by kernel_rfl) (by kernel_rfl) (by kernel_rfl) (fun _ _ _ h => h) (Or.inl ⟨by rfl, ?_⟩) (by assumption) ?_
              rotate_left
              · intro w hSw; (try dsimp only at hSw); go_simp; try with_reducible rfl
              (try simp only [Act.put, List.setIfInBounds_toArray, List.set_cons_zero, List.set_cons_succ])
              refine wpAnyH_take (i := 9) (oi := ⟨some 136, _, _, _, _, _⟩) (v := ?_) rfl (by kernel_rfl) (by kernel_rfl) (by kernel_rfl) (fun _ _ _ h => h) (Or.inl ⟨by rfl, ?_⟩) (by assumption) ?_
              rotate_left
              · intro w hSw; (try dsimp only at hSw); go_simp; try with_reducible rfl
              (try simp only [Act.put, List.setIfInBounds_toArray, List.set_cons_zero, List.set_cons_succ])
              refine wpAnyH_take (i := 6) (oi := ⟨some 133, _, _, _, _, _⟩) (v := ?_) rfl (by kernel_rfl) (by kernel_rfl) (by kernel_rfl) (fun _ _ _ h => h) (Or.inl ⟨by rfl, ?_⟩) (by assumption) ?_
              rotate_left
              · intro w hSw; (try dsimp only at hSw); go_simp; try with_reducible rfl
              (try simp only [Act.put, List.setIfInBounds_toArray, List.set_cons_zero, List.set_cons_succ])
              refine wpAnyH_take (i := 10) (oi := ⟨some 137, _, _, _, _, _⟩) (v := ?_) rfl (by kernel_rfl) (by kernel_rfl) (by kernel_rfl) (fun _ _ _ h => h) (Or.inl ⟨by rfl, ?_⟩) (by assumption) ?_
              rotate_left
              · intro w hSw; (try dsimp only at hSw); go_simp; try with_reducible rfl
              (try simp only [Act.put, List.setIfInBounds_toArray, List.set_cons_zero, List.set_cons_succ])
              refine wpAnyH_take (i := 11) (oi := ⟨some 138, _, _, _, _, _⟩) (v := ?_) rfl (by kernel_rfl) (by kernel_rfl) (by kernel_rfl) (fun _ _ _ h => h) (Or.inl ⟨by rfl, ?_⟩) (by assumption) ?_
              rotate_left
              · intro w hSw; (try dsimp only at hSw); go_simp; try with_reducible rfl
              (try simp only [Act.put, List.setIfInBounds_toArray, List.set_cons_zero, List.set_cons_succ])
              refine wpAnyH_take (i := 12) (oi := ⟨some 139, _, _, _, _, _⟩) (v := ?_) rfl (by kernel_rfl) (by kernel_rfl) (by kernel_rfl) (fun _ _ _ h => h) (Or.inl ⟨by rfl, ?_⟩) (by assumption) ?_
              rotate_left
              · intro w hSw; (try dsimp only at hSw); go_simp; try with_reducible rfl
              (try simp only [Act.put, List.setIfInBounds_toArray, List.set_cons_zero, List.set_cons_succ])
              refine wpAnyH_take (i := 13) (oi := ⟨some 140, _, _, _, _, _⟩) (v := ?_) rfl (by kernel_rfl) (by kernel_rfl) (by kernel_rfl) (fun _ _ _ h => h) (Or.inl ⟨by rfl, ?_⟩) (by assumption) ?_
              rotate_left
              · intro w hSw; (try dsimp only at hSw); go_simp; try with_reducible rfl
              (try simp only [Act.put, List.setIfInBounds_toArray, List.set_cons_zero, List.set_cons_succ])
              refine wpAnyH_done (by kernel_rfl) ?_ _
              clear hHeld
              go_wp2_with (first | go_big_skip | go_big_guard | fail)
              go_roundw
              case rel => exact ⟨i + 1, by omega, by go_num, hD⟩
              case measure => simp [intOf]; omega
            · have e : i = 32 := by omega
              subst e
              go_wp2_with (first | go_big_skip | go_big_guard | fail)
              go_ret
              exact ⟨rfl, hst.nil⟩
theorem pieces_law (ao : Option Addr) (n c : Nat) (bs : List UInt8) (z : Int) (w : World) (hA : Rd w (.slice ao n c) 1 n (bytesV bs)) (hn : bs.length = n) (hz : -9223372036854775808 ≤ z ∧ z ≤ 9223372036854775807) :
    Calls Try.prog 5 #[.slice ao n c, .int .i64 z] w fun e w' => e = .returned (.bool true) ∧ St w [] w' [] := by
  by_cases k1 : n ≤ 1000
  · exact pieces_near ao n c bs z w hA hn hz k1
  · exact pieces_far ao n c bs z w hA hn hz (by omega)
end Go.Proofs.Ytilgjldnlgfehaa
