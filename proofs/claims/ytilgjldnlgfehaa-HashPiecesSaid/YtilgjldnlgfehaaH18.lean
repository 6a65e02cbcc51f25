import Derived.Test.YtilgjldnlgfehaaH15
import Derived.Test.YtilgjldnlgfehaaKP
import Derived.Test.YtilgjldnlgfehaaKC
namespace Go.Proofs.Ytilgjldnlgfehaa
open Go.RowKit Go.Shelf Hp
attribute [local irreducible] Go.Calls
set_option maxRecDepth 100000
set_option maxHeartbeats 4000000
theorem cut64_take {l : List UInt8} {x m : Nat} (h : x < m) : cut64 (l.take (64 * m)) x = cut64 l x := by
  unfold cut64
  rw [List.drop_take, List.take_take, Nat.min_eq_left (by omega)]
theorem cuts_take {l : List UInt8} {x m : Nat} (h : x ≤ m) : cuts (l.take (64 * m)) x = cuts l x := by
  unfold cuts
  refine List.map_congr_left fun i hi => cut64_take ?_
  have := List.mem_range.1 hi
  omega
theorem cuts_get {l : List UInt8} {x m : Nat} (h : x < m) : (cuts l m)[x]? = some (cut64 l x) := by simp [cuts, h]
theorem foldP_cuts {l : List UInt8} {x m : Nat} (h : x < m) : foldP (cuts l m) (x + 1) = (foldP (cuts l m) x).turn (cut64 l x) := foldP_succ (cuts_get h)
section
attribute [local go_sem ↓] loadedSS
theorem turnedL_any (ao : Option Addr) (n c m : Nat) (bs : List UInt8) (w : World) (hA : Rd w (.slice ao n c) 1 n (bytesV bs)) (hn : bs.length = n) (hm : n = 64 * m) (hb : n ≤ 100000) :
    Calls Try.prog 24 #[.slice ao n c] w fun e w' => e = .returned (.tuple #[.agg (wordsV (foldP (cuts bs m) m).list).toArray, .bool true]) ∧ St w [] w' [] := by
  have hst := St.refl w
  have Hn := hid hn
  subst hm
  clear hn
  have hbd := hA.bd.1
  have hbd2 := hA.bd.2.1
  go_enter Try.func24, Try.ntmps24
  go_wp2_with (first | go_big_skip | go_big_guard | (refine wl_alloc hst rfl rfl ?_; intro g2 _ hst1; clear hst) | (go_at_call 21; refine (start_any _).mono ?_; rintro _ _ ⟨rfl, h4⟩; have hst2 := St.call0 hst1 h4; clear h4 hst1) | (refine wl_alloc hst2 rfl rfl ?_; intro g4 _ hst3; clear hst2) | (refine wl_storeA [] hst3 rfl rfl rfl rfl rfl rfl rfl ?_; intro w5 hst4; clear hst3))
  have hst5 : St w [] w5 [.blk g4 36 (wordsV (foldP (cuts bs m) 0).list), .blk g2 36 (List.replicate 8 (.int .u32 0))] := by rw [foldP_zero]; exact hst4
  clear hst4
  go_loopw [5] (fun q wr => ∃ x : Nat, x ≤ m ∧ q = .int .i64 (64 * (x : Int)) ∧ St w [] wr [.blk g4 36 (wordsV (foldP (cuts bs m) x).list), .blk g2 36 (List.replicate 8 (.int .u32 0))]) (fun q _ => (64 * (m : Int) - intOf q).toNat)
  case atStart => exact ⟨0, by omega, rfl, hst5⟩
  case round =>
    clear hst5
    obtain ⟨x, hx, rfl, hst⟩ := hrel
    have g1 : ((64 * m : Nat) : Int) = 64 * (m : Int) := by push_cast; rfl
    by_cases hxm : x < m
    · obtain ⟨b, off, rfl, _⟩ := hA.at (k := 0) (by omega)
      have z0 : IntKind.i64.wrap (64 * (x : Int) + 64) = 64 * (x : Int) + 64 := IntWalk.i64_in _ (by omega)
      have hlt : decide (64 * (x : Int) < 64 * (m : Int)) = true := decide_eq_true (by omega)
      have n1 : (64 * (x : Int)).toNat = 64 * x := by omega
      have n2 : (64 * (x : Int) + 64).toNat = 64 * x + 64 := by omega
      have n3 : 64 * (x : Int) + 64 ≤ (c : Int) := by omega
      have n4 : 64 * (x : Int) ≤ 64 * (x : Int) + 64 := by omega
      have n5 : 0 ≤ 64 * (x : Int) := by omega
      have n6 : 0 ≤ 64 * (x : Int) + 64 := by omega
      have n7 : ¬ c = 64 * x := by omega
      obtain ⟨S, hS⟩ : ∃ S, S = foldP (cuts bs m) x := ⟨_, rfl⟩
      obtain ⟨T, hT⟩ : ∃ T, T = S.turn (cut64 bs x) := ⟨_, rfl⟩
      have HS := hid (show foldP (cuts bs m) (x + 1) = T by rw [hT, hS, foldP_cuts hxm])
      have HT := hid hT
      have HC := hid (length_cut64 Hn.out hxm)
      rw [← hS] at hst
      clear hS hT
      go_wp2_with (first | go_big_skip | go_big_guard | fail)
      go_cut [6, 7] (fun a b wx => ∃ g6, a = .pointer (some ⟨g6, 0, none⟩) ∧ b = .int .i64 0 ∧ St w [] wx [.blk g6 36 (wordsV T.list), .blk g4 36 (wordsV S.list), .blk g2 36 (List.replicate 8 (.int .u32 0))])
      case first =>
        have hD := hst.drew
        clear hst
        refine wp_region_held_drew (S := (fun w' => (loadVarH 36 ⟨g4, 0, none⟩).run Try.prog w' = .ok (.agg (List.toArray (wordsV S.list))) w')) (by kernel_rfl) (by exact ldA (wordsV S.list) [] hD (rfl) (rfl)) (fun hHeld => ?_)
        refine wpAnyH_take (i := 0) (oi := ⟨some 16, _, _, _, _, _⟩) (v := ?_) rfl (by kernel_rfl) (by kernel_rfl) (by kernel_rfl) (fun _ _ _ h => h) (Or.inl ⟨by rfl, ?_⟩) (by assumption) ?_
        rotate_left
        · intro w hSw; (try dsimp only at hSw); go_simp; try with_reducible rfl
        (try simp only [Act.put, List.setIfInBounds_toArray, List.set_cons_zero, List.set_cons_succ])
        refine wpAnyH_take (i := 1) (oi := ⟨some 17, _, _, _, _, _⟩) (v := ?_) rfl (by kernel_rfl) (by kernel_rfl) (by kernel_rfl) (fun _ _ _ h => h) (Or.inl ⟨by rfl, ?_⟩) (by assumption) ?_
        rotate_left
        · intro w hSw; (try dsimp only at hSw); go_simp; try with_reducible rfl
        (try simp only [Act.put, List.setIfInBounds_toArray, List.set_cons_zero, List.set_cons_succ])
        refine wpAnyH_take (i := 2) (oi := ⟨some 18, _, _, _, _, _⟩) (v := ?_) rfl (by kernel_rfl) (by kernel_rfl) (by kernel_rfl) (fun _ _ _ h => h) (Or.inl ⟨by rfl, ?_⟩) (by assumption) ?_
        rotate_left
        · intro w hSw; (try dsimp only at hSw); go_simp; try with_reducible rfl
        (try simp only [Act.put, List.setIfInBounds_toArray, List.set_cons_zero, List.set_cons_succ])
        refine wpAnyH_take (i := 3) (oi := ⟨some 19, _, _, _, _, _⟩) (v := ?_) rfl (by kernel_rfl) (by kernel_rfl) (by kernel_rfl) (fun _ _ _ h => h) (Or.inl ⟨by rfl, ?_⟩) (by assumption) ?_
        rotate_left
        · intro w hSw; (try dsimp only at hSw); go_simp; try with_reducible rfl
        (try simp only [Act.put, List.setIfInBounds_toArray, List.set_cons_zero, List.set_cons_succ])
        refine wpAnyH_take (i := 4) (oi := ⟨some 20, _, _, _, _, _⟩) (v := ?_) rfl (by kernel_rfl) (by kernel_rfl) (by kernel_rfl) (fun _ _ _ h => h) (Or.inl ⟨by rfl, ?_⟩) (by assumption) ?_
        rotate_left
        · intro w hSw; (try dsimp only at hSw); go_simp; try with_reducible rfl
        (try simp only [Act.put, List.setIfInBounds_toArray, List.set_cons_zero, List.set_cons_succ])
        refine wpAnyH_take (i := 5) (oi := ⟨some 21, _, _, _, _, _⟩) (v := ?_) rfl (by kernel_rfl) (by kernel_rfl) (by kernel_rfl) (fun _ _ _ h => h) (Or.inl ⟨by rfl, ?_⟩) (by assumption) ?_
        rotate_left
        · intro w hSw; (try dsimp only at hSw); go_simp; try with_reducible rfl
        (try simp only [Act.put, List.setIfInBounds_toArray, List.set_cons_zero, List.set_cons_succ])
        refine wpAnyH_ready (rs := [6, 10]) (by kernel_rfl) (by simp) ?_
        refine (AllReadyH.cons (o := ⟨some 22, _, _, _, _, _⟩) rfl (fun K hK => ?_) (AllReadyH.cons (o := ⟨some 6, _, _, _, _, _⟩) rfl (fun K hK => ?_) AllReadyH.nil))
        · go_simp
          go_at_call 19
          refine (turn_any S (cut64 bs x) (some ⟨b, off + 64 * x, none⟩) 64 (c - 64 * x) _ ?_ HC.out).mono ?_
          · exact Rd.win (64 * x) (Rd.old hD hA) (by omega) (by omega) (by omega)
          rintro _ w7 ⟨h3, h4⟩
          rw [if_pos HC.out, ← HT.out] at h3
          subst h3
          have hN1 := St.call0 hD h4
          clear h4
          refine hK.out _ _ ?_ (fun hHeld => ?_)
          · exact ldA (wordsV S.list) [] hN1 (rfl) (rfl)
          clear hK K
          (try simp only [Act.put, List.setIfInBounds_toArray, List.set_cons_zero, List.set_cons_succ])
          refine wpAnyH_take (i := 7) (oi := ⟨some 15, _, _, _, _, _⟩) (v := ?_) rfl (by kernel_rfl) (by kernel_rfl) (by kernel_rfl) (fun _ _ _ h => h) (Or.inl ⟨by rfl, ?_⟩) (by assumption) ?_
          rotate_left
          · intro w hSw; (try dsimp only at hSw); go_simp; try with_reducible rfl
          (try simp only [Act.put, List.setIfInBounds_toArray, List.set_cons_zero, List.set_cons_succ])
          refine wpAnyH_take (i := 8) (oi := ⟨some 23, _, _, _, _, _⟩) (v := ?_) rfl (by kernel_rfl) (by kernel_rfl) (by kernel_rfl) (fun _ _ _ h => h) (Or.inl ⟨by rfl, ?_⟩) (by assumption) ?_
          rotate_left
          · intro w hSw; (try dsimp only at hSw); go_simp; try with_reducible rfl
          (try simp only [Act.put, List.setIfInBounds_toArray, List.set_cons_zero, List.set_cons_succ])
          refine wpAnyH_take (i := 9) (oi := ⟨some 24, _, _, _, _, _⟩) (v := ?_) rfl (by kernel_rfl) (by kernel_rfl) (by kernel_rfl) (fun _ _ _ h => h) (Or.inl ⟨by rfl, ?_⟩) (by assumption) ?_
          rotate_left
          · intro w hSw; (try dsimp only at hSw); go_simp; try with_reducible rfl
          (try simp only [Act.put, List.setIfInBounds_toArray, List.set_cons_zero, List.set_cons_succ])
          refine wpAnyH_ready (rs := [10]) (by kernel_rfl) (by simp) ?_
          refine (AllReadyH.cons (o := ⟨some 6, _, _, _, _, _⟩) rfl (fun K hK => ?_) AllReadyH.nil)
          rw [if_pos (by rfl)]
          apply ow_alloc hN1
          rfl
          infer_instance
          intro g6 _ hN2
          refine hK.out _ _ ?_ (fun hHeld => ?_)
          · exact ldA (wordsV S.list) [_] hN2 (rfl) (rfl)
          clear hK K
          (try simp only [Act.put, List.setIfInBounds_toArray, List.set_cons_zero, List.set_cons_succ])
          refine wpAnyH_ready (rs := [11]) (by kernel_rfl) (by simp) ?_
          refine (AllReadyH.cons (o := ⟨none, _, _, _, _, _⟩) rfl (fun K hK => ?_) AllReadyH.nil)
          rw [if_pos (by rfl)]
          apply ow_storeA [] hN2
          rfl
          exact rfl
          exact rfl
          infer_instance
          exact rfl
          exact rfl
          exact rfl
          intro _ hN3
          refine hK.out _ _ ?_ (fun hHeld => ?_)
          · exact ldA (wordsV S.list) [_] hN3 (rfl) (rfl)
          clear hK K
          (try simp only [Act.put, List.setIfInBounds_toArray, List.set_cons_zero, List.set_cons_succ])
          refine wpAnyH_take (i := 12) (oi := ⟨some 7, _, _, _, _, _⟩) (v := ?_) rfl (by kernel_rfl) (by kernel_rfl) (by kernel_rfl) (fun _ _ _ h => h) (Or.inl ⟨by rfl, ?_⟩) (by assumption) ?_
          rotate_left
          · intro w hSw; (try dsimp only at hSw); go_simp; try with_reducible rfl
          (try simp only [Act.put, List.setIfInBounds_toArray, List.set_cons_zero, List.set_cons_succ])
          refine wpAnyH_done (by kernel_rfl) ?_ _
          clear hHeld
          go_wp2_with (first | go_big_skip | go_big_guard | fail)
          go_meet
          exact ⟨g6, rfl, rfl, hN3⟩
        · rw [if_pos (by rfl)]
          apply ow_alloc hD
          rfl
          infer_instance
          intro g6 _ hN4
          refine hK.out _ _ ?_ (fun hHeld => ?_)
          · exact ldA (wordsV S.list) [_] hN4 (rfl) (rfl)
          clear hK K
          (try simp only [Act.put, List.setIfInBounds_toArray, List.set_cons_zero, List.set_cons_succ])
          refine wpAnyH_ready (rs := [6]) (by kernel_rfl) (by simp) ?_
          refine (AllReadyH.cons (o := ⟨some 22, _, _, _, _, _⟩) rfl (fun K hK => ?_) AllReadyH.nil)
          go_simp
          go_at_call 19
          refine (turn_any S (cut64 bs x) (some ⟨b, off + 64 * x, none⟩) 64 (c - 64 * x) _ ?_ HC.out).mono ?_
          · exact Rd.win (64 * x) (Rd.old hN4 hA) (by omega) (by omega) (by omega)
          rintro _ w7 ⟨h3, h4⟩
          rw [if_pos HC.out, ← HT.out] at h3
          subst h3
          have hN5 := St.call0 hN4 h4
          clear h4
          refine hK.out _ _ ?_ (fun hHeld => ?_)
          · exact ldA (wordsV S.list) [_] hN5 (rfl) (rfl)
          clear hK K
          (try simp only [Act.put, List.setIfInBounds_toArray, List.set_cons_zero, List.set_cons_succ])
          refine wpAnyH_take (i := 7) (oi := ⟨some 15, _, _, _, _, _⟩) (v := ?_) rfl (by kernel_rfl) (by kernel_rfl) (by kernel_rfl) (fun _ _ _ h => h) (Or.inl ⟨by rfl, ?_⟩) (by assumption) ?_
          rotate_left
          · intro w hSw; (try dsimp only at hSw); go_simp; try with_reducible rfl
          (try simp only [Act.put, List.setIfInBounds_toArray, List.set_cons_zero, List.set_cons_succ])
          refine wpAnyH_take (i := 8) (oi := ⟨some 23, _, _, _, _, _⟩) (v := ?_) rfl (by kernel_rfl) (by kernel_rfl) (by kernel_rfl) (fun _ _ _ h => h) (Or.inl ⟨by rfl, ?_⟩) (by assumption) ?_
          rotate_left
          · intro w hSw; (try dsimp only at hSw); go_simp; try with_reducible rfl
          (try simp only [Act.put, List.setIfInBounds_toArray, List.set_cons_zero, List.set_cons_succ])
          refine wpAnyH_take (i := 9) (oi := ⟨some 24, _, _, _, _, _⟩) (v := ?_) rfl (by kernel_rfl) (by kernel_rfl) (by kernel_rfl) (fun _ _ _ h => h) (Or.inl ⟨by rfl, ?_⟩) (by assumption) ?_
          rotate_left
          · intro w hSw; (try dsimp only at hSw); go_simp; try with_reducible rfl
          (try simp only [Act.put, List.setIfInBounds_toArray, List.set_cons_zero, List.set_cons_succ])
          refine wpAnyH_ready (rs := [11]) (by kernel_rfl) (by simp) ?_
          refine (AllReadyH.cons (o := ⟨none, _, _, _, _, _⟩) rfl (fun K hK => ?_) AllReadyH.nil)
          rw [if_pos (by rfl)]
          apply ow_storeA [] hN5
          rfl
          exact rfl
          exact rfl
          infer_instance
          exact rfl
          exact rfl
          exact rfl
          intro _ hN6
          refine hK.out _ _ ?_ (fun hHeld => ?_)
          · exact ldA (wordsV S.list) [_] hN6 (rfl) (rfl)
          clear hK K
          (try simp only [Act.put, List.setIfInBounds_toArray, List.set_cons_zero, List.set_cons_succ])
          refine wpAnyH_take (i := 12) (oi := ⟨some 7, _, _, _, _, _⟩) (v := ?_) rfl (by kernel_rfl) (by kernel_rfl) (by kernel_rfl) (fun _ _ _ h => h) (Or.inl ⟨by rfl, ?_⟩) (by assumption) ?_
          rotate_left
          · intro w hSw; (try dsimp only at hSw); go_simp; try with_reducible rfl
          (try simp only [Act.put, List.setIfInBounds_toArray, List.set_cons_zero, List.set_cons_succ])
          refine wpAnyH_done (by kernel_rfl) ?_ _
          clear hHeld
          go_wp2_with (first | go_big_skip | go_big_guard | fail)
          go_meet
          exact ⟨g6, rfl, rfl, hN6⟩
      case rest =>
        clear hst
        obtain ⟨g6, rfl, rfl, hst⟩ := hcut
        go_wp2_with (first | go_big_skip | go_big_guard | (refine wl_loadE rfl rfl rfl ?_; first | refine ⟨_, Loads.atA (wordsV T.list) [] hst (rfl) (rfl), ?_⟩) | (refine wl_storeA [_] hst rfl rfl rfl rfl rfl rfl rfl ?_; intro w9 hst2; clear hst))
        have hst3 : St w [] w9 [.blk g4 36 (wordsV (foldP (cuts bs m) (x + 1)).list), .blk g2 36 (List.replicate 8 (.int .u32 0))] := by
          rw [HS.out]
          exact St.sub hst2 (.cons _ (List.Sublist.refl _))
        clear hst2
        go_roundw
        case rel => exact ⟨x + 1, by omega, (by congr 1 <;> push_cast <;> try omega), hst3⟩
        case measure => simp [intOf]; omega
    · have e : x = m := by omega
      subst e
      have hlt : decide (64 * (x : Int) < 64 * (x : Int)) = false := decide_eq_false (by omega)
      obtain ⟨S, hS⟩ : ∃ S, S = foldP (cuts bs x) x := ⟨_, rfl⟩
      rw [← hS] at hst
      have HS := hid hS
      clear hS
      go_wp2_with (first | go_big_skip | go_big_guard | (refine wl_loadE rfl rfl rfl ?_; first | refine ⟨_, Loads.atA (wordsV S.list) [] hst (rfl) (rfl), ?_⟩) | (refine wl_storeA [_] hst rfl rfl rfl rfl rfl rfl rfl ?_; intro w9 hst2; clear hst))
      have hl := Loads.atA (P := Try.prog) (off := 0) (T := 36) (wordsV S.list) [_] hst2 rfl rfl
      rw [← HS.out]
      refine bodyPost_ret (results_cellTmp rfl rfl hl) rfl ⟨rfl, hst2.nil⟩
end
end Go.Proofs.Ytilgjldnlgfehaa
