import Derived.Test.YtilgjldnlgfehaaH29
import Derived.Test.YtilgjldnlgfehaaHsJ
namespace Go.Proofs.Ytilgjldnlgfehaa
set_option linter.unusedVariables false
set_option linter.unusedSimpArgs false
open Go.RowKit Go.Shelf Hp
attribute [local irreducible] Go.Calls
set_option maxRecDepth 100000
set_option maxHeartbeats 0
theorem fill_row {w w5 : World} {out : Value} {vs : List Value} {ps : List (List UInt8)} {n : Nat} (hl : vs.length = n) (h : St w [] w5 (.row out 22 1 vs.length vs :: rowsB 5 vs ps)) : ∃ ao c, out = .slice ao n c := by
  obtain ⟨ao, c, e⟩ := St.rowSliceAt (L1 := []) h
  exact ⟨ao, c, by rw [e, hl]⟩
theorem hknown_any (w : World) : Calls Try.prog 6 #[] w fun e w' => e = .returned (.bool true) ∧ St w [] w' [] := by
  have hst := St.refl w
  have HC := hid pieces_abc
  have h64 := hid (show abcP.length = 64 from rfl)
  have p63 := hid (show (bytesV abcP)[63]? = some (.int .u8 24) from rfl)
  have H55 := hid pieces_55
  have H56 := hid pieces_56
  have HPE := hid parse_empty
  have HPG := hid parse_G
  obtain ⟨D, hD⟩ : ∃ D, D = sumB longB := ⟨_, rfl⟩
  have hD4 : (D.take 4 == [36, 141, 106, 97] && D.drop 28 == [25, 219, 6, 193]) = true := by rw [hD]; exact sum_long
  have HD := hid hD
  have HD4 := hid hD4
  have HD32 := hid (show D.length = 32 by rw [hD]; rfl)
  have HDV := hid (show (bytesV D).length = 32 by rw [length_bytesV, hD]; rfl)
  have HDO := hid (ones_bytesV D)
  have HDL := hid (show lessB D D = false by unfold lessB; rw [cmp_self]; rfl)
  obtain ⟨E, hE⟩ : ∃ E, E = sumB [] := ⟨_, rfl⟩
  have hE4 : (E.take 4 == [227, 176, 196, 66] && E.drop 28 == [120, 82, 184, 85]) = true := by rw [hE]; exact sum_nil
  have HE := hid hE
  have HE4 := hid hE4
  have HE32 := hid (show E.length = 32 by rw [hE]; rfl)
  clear hD hD4 hE hE4
  go_enter Try.func6, Try.ntmps6
  go_wp2_with (first | go_big_skip | go_big_guard | (apply wl_bsX [.int _ _, .int _ _, .int _ _] [.int _ _, .int _ _, .int _ _] hst; rfl; rfl; exact rfl; exact rfl; infer_instance; infer_instance; rfl; rfl; rfl; intro g1 _ hst1; clear hst) | (refine wl_convSS (L1 := []) hst1 rfl rfl rfl ?_; intro w2 hst2; clear hst1) | (go_at_call 11; refine (fill_any (some ⟨g1, 0, none⟩) 3 3 abcB _ (Rd.frz0 hst2 (.head _) rfl (by decide)) rfl (by decide)).mono ?_; rw [HC.out]; rintro _ w5 ⟨out, vs, rfl, hvl, h4⟩; have hst3 := (St.call hst2 h4).nil; clear hst2; obtain ⟨b, off, c, bq, cq, rfl, c0, cb⟩ := awake_facts hvl h64.out h4; have k63 := cb 63 _ p63.out; clear cb hvl h4) | (apply wl_make 55 55 hst3; rfl; rfl; exact rfl; exact rfl; infer_instance; infer_instance; infer_instance; exact rfl; exact rfl; decide; decide; intro g2 _ hst4; clear hst3) | (go_at_call 11; refine (fill_any (some ⟨g2, 0, none⟩) 55 55 (List.replicate 55 0) _ (Rd.blk0 hst4 rfl (by decide)) rfl (by decide)).mono ?_; rintro _ w5 ⟨out, vs, rfl, hvl, h4⟩; obtain ⟨ag2, cg2, rfl⟩ := fill_row (hvl.trans H55.out) h4; have hst5 := ((St.call hst4 h4).nil); clear hvl h4 hst4) | (apply wl_make 56 56 hst5; rfl; rfl; exact rfl; exact rfl; infer_instance; infer_instance; infer_instance; exact rfl; exact rfl; decide; decide; intro g3 _ hst6; clear hst5) | (go_at_call 11; refine (fill_any (some ⟨g3, 0, none⟩) 56 56 (List.replicate 56 0) _ (Rd.blk0 hst6 rfl (by decide)) rfl (by decide)).mono ?_; rintro _ w5 ⟨out, vs, rfl, hvl, h4⟩; obtain ⟨ag3, cg3, rfl⟩ := fill_row (hvl.trans H56.out) h4; have hst7 := ((St.call hst6 h4).nil); clear hvl h4 hst6) | (apply wl_make 64 64 hst7; rfl; rfl; exact rfl; exact rfl; infer_instance; infer_instance; infer_instance; exact rfl; exact rfl; decide; decide; intro g4 _ hst8; clear hst7))
  have hst9 : St w [] _ [.blk g4 5 (bytesV (List.replicate 0 71 ++ List.replicate (64 - 0) 0))] := hst8
  clear hst8
  go_loopw [3] (fun q wr => ∃ k : Nat, k ≤ 64 ∧ q = .int .i64 k ∧ St w [] wr [.blk g4 5 (bytesV (List.replicate k 71 ++ List.replicate (64 - k) 0))]) (fun q _ => 64 - (intOf q).toNat)
  case atStart => exact ⟨0, by omega, rfl, hst9⟩
  case round =>
    clear hst9
    obtain ⟨k, hk, rfl, hst⟩ := hrel
    by_cases hk64 : k < 64
    · have d1 : decide ((k : Int) < 64) = true := decide_eq_true (by omega)
      have hput := hid (show putAt (bytesV (List.replicate k 71 ++ List.replicate (64 - k) 0)) k [.int .u8 71] = bytesV (List.replicate (k + 1) 71 ++ List.replicate (64 - (k + 1)) 0) by
        have h1 := put_set (l := List.replicate k 71 ++ List.replicate (64 - k) 0) (j := k) (by simp; omega) 71
        rw [show ((71 : UInt8).toNat : Int) = 71 from rfl] at h1
        rw [h1]
        congr 1
        rw [List.set_append_right _ _ (by simp), List.length_replicate, Nat.sub_self, show 64 - k = (64 - (k + 1)) + 1 by omega, List.replicate_succ, List.set_cons_zero, List.replicate_succ', List.append_assoc]
        rfl)
      have hln := hid (show (bytesV (List.replicate k 71 ++ List.replicate (64 - k) 0)).length = 64 by simp [length_bytesV]; omega)
      obtain ⟨Bk, hBk⟩ : ∃ B, B = bytesV (List.replicate k 71 ++ List.replicate (64 - k) 0) := ⟨_, rfl⟩
      rw [← hBk] at hst hput hln
      clear hBk
      go_wp2_with (first | go_big_skip | go_big_guard | (refine wl_index rfl rfl rfl rfl hk64 ?_) | (refine wl_store [] hst rfl rfl rfl (v := .int .u8 71) rfl rfl rfl (by rw [hln.out]; simp [Value.cells]; omega) ?_; intro w5 hst4; clear hst))
      have hst5 : St w [] w5 [.blk g4 5 (bytesV (List.replicate (k + 1) 71 ++ List.replicate (64 - (k + 1)) 0))] := by
        rw [← hput.out]
        simpa [Value.cells] using hst4
      clear hst4
      go_roundw
      case rel => exact ⟨k + 1, by omega, by go_num, hst5⟩
      case measure => simp [intOf]; omega
    · have e : k = 64 := by omega
      subst e
      have d1 : decide ((64 : Int) < 64) = false := by decide
      have hG : List.replicate 64 (71 : UInt8) ++ List.replicate (64 - 64) 0 = List.replicate 64 71 := by simp
      rw [hG] at hst
      obtain ⟨G, hGG⟩ : ∃ G : List UInt8, G = List.replicate 64 71 := ⟨_, rfl⟩
      have HG := hid hGG
      have HGl := hid (show G.length = 64 by rw [hGG]; rfl)
      rw [← hGG] at hst
      rw [← hGG] at HPG
      clear hG hGG
      rw [show ((64 : Nat) : Int) = 64 from rfl]
      go_wp2_with (first | go_big_skip | go_big_guard | fail)
      (try simp only [Act.put, List.setIfInBounds_toArray, List.set_cons_zero, List.set_cons_succ])
      go_cut [4, 5] (fun a b wx => ∃ g5 X, a = .pointer (some ⟨g5, 0, none⟩) ∧ b = .int .i64 2 ∧ St w [] wx (X :: [.blk g4 5 (bytesV G)]))
      case first =>
        have hD := hst.drew
        clear hst
        refine wp_region_held_drew (S := (fun w' => True)) (by kernel_rfl) (by exact trivial) (fun hHeld => ?_)
        refine wpAnyH_ready (rs := [0, 1, 6]) (by kernel_rfl) (by simp) ?_
        refine (AllReadyH.cons (o := ⟨some 54, _, _, _, _, _⟩) rfl (fun K hK => ?_) (AllReadyH.cons (o := ⟨some 55, _, _, _, _, _⟩) rfl (fun K hK => ?_) (AllReadyH.cons (o := ⟨some 4, _, _, _, _, _⟩) rfl (fun K hK => ?_) AllReadyH.nil)))
        · go_simp
          go_at_call 21
          refine (start_any _).mono ?_
          rintro _ _ ⟨rfl, h4⟩
          have hM1 := St.call0 hD h4
          clear h4
          refine hK.out _ _ ?_ (fun hHeld => ?_)
          · exact trivial
          clear hK K
          (try simp only [Act.put, List.setIfInBounds_toArray, List.set_cons_zero, List.set_cons_succ])
          refine wpAnyH_ready (rs := [1, 6]) (by kernel_rfl) (by simp) ?_
          refine (AllReadyH.cons (o := ⟨some 55, _, _, _, _, _⟩) rfl (fun K hK => ?_) (AllReadyH.cons (o := ⟨some 4, _, _, _, _, _⟩) rfl (fun K hK => ?_) AllReadyH.nil))
          · rw [if_pos (by rfl)]
            refine ow_of_wl (ops := #[]) (by rfl) ?_
            apply wl_make 63 63 hM1
            · rfl
            · rfl
            · exact rfl
            · exact rfl
            · infer_instance
            · infer_instance
            · infer_instance
            · exact rfl
            · exact rfl
            · decide
            · decide
            intro gm _ hM2
            refine q0_nil ?_
            refine hK.out _ _ ?_ (fun hHeld => ?_)
            · exact trivial
            clear hK K
            (try simp only [Act.put, List.setIfInBounds_toArray, List.set_cons_zero, List.set_cons_succ])
            refine wpAnyH_ready (rs := [2, 6]) (by kernel_rfl) (by simp) ?_
            refine (AllReadyH.cons (o := ⟨some 56, _, _, _, _, _⟩) rfl (fun K hK => ?_) (AllReadyH.cons (o := ⟨some 4, _, _, _, _, _⟩) rfl (fun K hK => ?_) AllReadyH.nil))
            · go_simp
              go_at_call 19
              refine (turn_no S8.start (List.replicate 63 0) _ 63 63 _ rfl (by decide)).mono ?_
              rintro _ _ ⟨he, h4⟩
              rw [if_neg (by decide)] at he
              subst he
              have hM3 := St.call0 hM2 h4
              clear h4
              refine hK.out _ _ ?_ (fun hHeld => ?_)
              · exact trivial
              clear hK K
              (try simp only [Act.put, List.setIfInBounds_toArray, List.set_cons_zero, List.set_cons_succ])
              refine wpAnyH_take (i := 3) (oi := ⟨some 53, _, _, _, _, _⟩) (v := ?_) rfl (by kernel_rfl) (by kernel_rfl) (by kernel_rfl) (fun _ _ _ h => h) (Or.inl ⟨by rfl, ?_⟩) (by assumption) ?_
              rotate_left
              · intro w hSw; (try dsimp only at hSw); go_simp; try with_reducible rfl
              (try simp only [Act.put, List.setIfInBounds_toArray, List.set_cons_zero, List.set_cons_succ])
              refine wpAnyH_take (i := 4) (oi := ⟨some 57, _, _, _, _, _⟩) (v := ?_) rfl (by kernel_rfl) (by kernel_rfl) (by kernel_rfl) (fun _ _ _ h => h) (Or.inl ⟨by rfl, ?_⟩) (by assumption) ?_
              rotate_left
              · intro w hSw; (try dsimp only at hSw); go_simp; try with_reducible rfl
              (try simp only [Act.put, List.setIfInBounds_toArray, List.set_cons_zero, List.set_cons_succ])
              refine wpAnyH_take (i := 5) (oi := ⟨some 58, _, _, _, _, _⟩) (v := ?_) rfl (by kernel_rfl) (by kernel_rfl) (by kernel_rfl) (fun _ _ _ h => h) (Or.inl ⟨by rfl, ?_⟩) (by assumption) ?_
              rotate_left
              · intro w hSw; (try dsimp only at hSw); go_simp; try with_reducible rfl
              (try simp only [Act.put, List.setIfInBounds_toArray, List.set_cons_zero, List.set_cons_succ])
              refine wpAnyH_ready (rs := [6]) (by kernel_rfl) (by simp) ?_
              refine (AllReadyH.cons (o := ⟨some 4, _, _, _, _, _⟩) rfl (fun K hK => ?_) AllReadyH.nil)
              rw [if_pos (by rfl)]
              refine ow_of_wl (ops := #[]) (by rfl) ?_
              refine wl_alloc hM3 rfl rfl ?_
              intro g5 _ hM4
              refine q0_nil ?_
              refine hK.out _ _ ?_ (fun hHeld => ?_)
              · exact trivial
              clear hK K
              (try simp only [Act.put, List.setIfInBounds_toArray, List.set_cons_zero, List.set_cons_succ])
              refine wpAnyH_ready (rs := [7]) (by kernel_rfl) (by simp) ?_
              refine (AllReadyH.cons (o := ⟨none, _, _, _, _, _⟩) rfl (fun K hK => ?_) AllReadyH.nil)
              rw [if_pos (by rfl)]
              refine ow_of_wl (ops := #[]) (by rfl) ?_
              refine wl_storeA [] hM4 rfl rfl rfl rfl rfl rfl rfl ?_
              intro _ hM5
              refine q0_nil ?_
              refine hK.out _ _ ?_ (fun hHeld => ?_)
              · exact trivial
              clear hK K
              (try simp only [Act.put, List.setIfInBounds_toArray, List.set_cons_zero, List.set_cons_succ])
              refine wpAnyH_take (i := 8) (oi := ⟨some 5, _, _, _, _, _⟩) (v := ?_) rfl (by kernel_rfl) (by kernel_rfl) (by kernel_rfl) (fun _ _ _ h => h) (Or.inl ⟨by rfl, ?_⟩) (by assumption) ?_
              rotate_left
              · intro w hSw; (try dsimp only at hSw); go_simp; try with_reducible rfl
              (try simp only [Act.put, List.setIfInBounds_toArray, List.set_cons_zero, List.set_cons_succ])
              refine wpAnyH_done (by kernel_rfl) ?_ _
              clear hHeld
              go_wp2_with (first | go_big_skip | go_big_guard | fail)
              go_meet
              exact ⟨g5, _, rfl, rfl, St.sub hM5 (.cons_cons _ (.cons _ (List.Sublist.refl _)))⟩
            · rw [if_pos (by rfl)]
              refine ow_of_wl (ops := #[]) (by rfl) ?_
              refine wl_alloc hM2 rfl rfl ?_
              intro g5 _ hM6
              refine q0_nil ?_
              refine hK.out _ _ ?_ (fun hHeld => ?_)
              · exact trivial
              clear hK K
              (try simp only [Act.put, List.setIfInBounds_toArray, List.set_cons_zero, List.set_cons_succ])
              refine wpAnyH_ready (rs := [2]) (by kernel_rfl) (by simp) ?_
              refine (AllReadyH.cons (o := ⟨some 56, _, _, _, _, _⟩) rfl (fun K hK => ?_) AllReadyH.nil)
              go_simp
              go_at_call 19
              refine (turn_no S8.start (List.replicate 63 0) _ 63 63 _ rfl (by decide)).mono ?_
              rintro _ _ ⟨he, h4⟩
              rw [if_neg (by decide)] at he
              subst he
              have hM7 := St.call0 hM6 h4
              clear h4
              refine hK.out _ _ ?_ (fun hHeld => ?_)
              · exact trivial
              clear hK K
              (try simp only [Act.put, List.setIfInBounds_toArray, List.set_cons_zero, List.set_cons_succ])
              refine wpAnyH_take (i := 3) (oi := ⟨some 53, _, _, _, _, _⟩) (v := ?_) rfl (by kernel_rfl) (by kernel_rfl) (by kernel_rfl) (fun _ _ _ h => h) (Or.inl ⟨by rfl, ?_⟩) (by assumption) ?_
              rotate_left
              · intro w hSw; (try dsimp only at hSw); go_simp; try with_reducible rfl
              (try simp only [Act.put, List.setIfInBounds_toArray, List.set_cons_zero, List.set_cons_succ])
              refine wpAnyH_take (i := 4) (oi := ⟨some 57, _, _, _, _, _⟩) (v := ?_) rfl (by kernel_rfl) (by kernel_rfl) (by kernel_rfl) (fun _ _ _ h => h) (Or.inl ⟨by rfl, ?_⟩) (by assumption) ?_
              rotate_left
              · intro w hSw; (try dsimp only at hSw); go_simp; try with_reducible rfl
              (try simp only [Act.put, List.setIfInBounds_toArray, List.set_cons_zero, List.set_cons_succ])
              refine wpAnyH_take (i := 5) (oi := ⟨some 58, _, _, _, _, _⟩) (v := ?_) rfl (by kernel_rfl) (by kernel_rfl) (by kernel_rfl) (fun _ _ _ h => h) (Or.inl ⟨by rfl, ?_⟩) (by assumption) ?_
              rotate_left
              · intro w hSw; (try dsimp only at hSw); go_simp; try with_reducible rfl
              (try simp only [Act.put, List.setIfInBounds_toArray, List.set_cons_zero, List.set_cons_succ])
              refine wpAnyH_ready (rs := [7]) (by kernel_rfl) (by simp) ?_
              refine (AllReadyH.cons (o := ⟨none, _, _, _, _, _⟩) rfl (fun K hK => ?_) AllReadyH.nil)
              rw [if_pos (by rfl)]
              refine ow_of_wl (ops := #[]) (by rfl) ?_
              refine wl_storeA [] hM7 rfl rfl rfl rfl rfl rfl rfl ?_
              intro _ hM8
              refine q0_nil ?_
              refine hK.out _ _ ?_ (fun hHeld => ?_)
              · exact trivial
              clear hK K
              (try simp only [Act.put, List.setIfInBounds_toArray, List.set_cons_zero, List.set_cons_succ])
              refine wpAnyH_take (i := 8) (oi := ⟨some 5, _, _, _, _, _⟩) (v := ?_) rfl (by kernel_rfl) (by kernel_rfl) (by kernel_rfl) (fun _ _ _ h => h) (Or.inl ⟨by rfl, ?_⟩) (by assumption) ?_
              rotate_left
              · intro w hSw; (try dsimp only at hSw); go_simp; try with_reducible rfl
              (try simp only [Act.put, List.setIfInBounds_toArray, List.set_cons_zero, List.set_cons_succ])
              refine wpAnyH_done (by kernel_rfl) ?_ _
              clear hHeld
              go_wp2_with (first | go_big_skip | go_big_guard | fail)
              go_meet
              exact ⟨g5, _, rfl, rfl, St.sub hM8 (.cons_cons _ (.cons _ (List.Sublist.refl _)))⟩
          · rw [if_pos (by rfl)]
            refine ow_of_wl (ops := #[]) (by rfl) ?_
            refine wl_alloc hM1 rfl rfl ?_
            intro g5 _ hM9
            refine q0_nil ?_
            refine hK.out _ _ ?_ (fun hHeld => ?_)
            · exact trivial
            clear hK K
            (try simp only [Act.put, List.setIfInBounds_toArray, List.set_cons_zero, List.set_cons_succ])
            refine wpAnyH_ready (rs := [1]) (by kernel_rfl) (by simp) ?_
            refine (AllReadyH.cons (o := ⟨some 55, _, _, _, _, _⟩) rfl (fun K hK => ?_) AllReadyH.nil)
            rw [if_pos (by rfl)]
            refine ow_of_wl (ops := #[]) (by rfl) ?_
            apply wl_make 63 63 hM9
            · rfl
            · rfl
            · exact rfl
            · exact rfl
            · infer_instance
            · infer_instance
            · infer_instance
            · exact rfl
            · exact rfl
            · decide
            · decide
            intro gm _ hM10
            refine q0_nil ?_
            refine hK.out _ _ ?_ (fun hHeld => ?_)
            · exact trivial
            clear hK K
            (try simp only [Act.put, List.setIfInBounds_toArray, List.set_cons_zero, List.set_cons_succ])
            refine wpAnyH_ready (rs := [2]) (by kernel_rfl) (by simp) ?_
            refine (AllReadyH.cons (o := ⟨some 56, _, _, _, _, _⟩) rfl (fun K hK => ?_) AllReadyH.nil)
            go_simp
            go_at_call 19
            refine (turn_no S8.start (List.replicate 63 0) _ 63 63 _ rfl (by decide)).mono ?_
            rintro _ _ ⟨he, h4⟩
            rw [if_neg (by decide)] at he
            subst he
            have hM11 := St.call0 hM10 h4
            clear h4
            refine hK.out _ _ ?_ (fun hHeld => ?_)
            · exact trivial
            clear hK K
            (try simp only [Act.put, List.setIfInBounds_toArray, List.set_cons_zero, List.set_cons_succ])
            refine wpAnyH_take (i := 3) (oi := ⟨some 53, _, _, _, _, _⟩) (v := ?_) rfl (by kernel_rfl) (by kernel_rfl) (by kernel_rfl) (fun _ _ _ h => h) (Or.inl ⟨by rfl, ?_⟩) (by assumption) ?_
            rotate_left
            · intro w hSw; (try dsimp only at hSw); go_simp; try with_reducible rfl
            (try simp only [Act.put, List.setIfInBounds_toArray, List.set_cons_zero, List.set_cons_succ])
            refine wpAnyH_take (i := 4) (oi := ⟨some 57, _, _, _, _, _⟩) (v := ?_) rfl (by kernel_rfl) (by kernel_rfl) (by kernel_rfl) (fun _ _ _ h => h) (Or.inl ⟨by rfl, ?_⟩) (by assumption) ?_
            rotate_left
            · intro w hSw; (try dsimp only at hSw); go_simp; try with_reducible rfl
            (try simp only [Act.put, List.setIfInBounds_toArray, List.set_cons_zero, List.set_cons_succ])
            refine wpAnyH_take (i := 5) (oi := ⟨some 58, _, _, _, _, _⟩) (v := ?_) rfl (by kernel_rfl) (by kernel_rfl) (by kernel_rfl) (fun _ _ _ h => h) (Or.inl ⟨by rfl, ?_⟩) (by assumption) ?_
            rotate_left
            · intro w hSw; (try dsimp only at hSw); go_simp; try with_reducible rfl
            (try simp only [Act.put, List.setIfInBounds_toArray, List.set_cons_zero, List.set_cons_succ])
            refine wpAnyH_ready (rs := [7]) (by kernel_rfl) (by simp) ?_
            refine (AllReadyH.cons (o := ⟨none, _, _, _, _, _⟩) rfl (fun K hK => ?_) AllReadyH.nil)
            rw [if_pos (by rfl)]
            refine ow_of_wl (ops := #[]) (by rfl) ?_
            refine wl_storeA [_] hM11 rfl rfl rfl rfl rfl rfl rfl ?_
            intro _ hM12
            refine q0_nil ?_
            refine hK.out _ _ ?_ (fun hHeld => ?_)
            · exact trivial
            clear hK K
            (try simp only [Act.put, List.setIfInBounds_toArray, List.set_cons_zero, List.set_cons_succ])
            refine wpAnyH_take (i := 8) (oi := ⟨some 5, _, _, _, _, _⟩) (v := ?_) rfl (by kernel_rfl) (by kernel_rfl) (by kernel_rfl) (fun _ _ _ h => h) (Or.inl ⟨by rfl, ?_⟩) (by assumption) ?_
            rotate_left
            · intro w hSw; (try dsimp only at hSw); go_simp; try with_reducible rfl
            (try simp only [Act.put, List.setIfInBounds_toArray, List.set_cons_zero, List.set_cons_succ])
            refine wpAnyH_done (by kernel_rfl) ?_ _
            clear hHeld
            go_wp2_with (first | go_big_skip | go_big_guard | fail)
            go_meet
            exact ⟨g5, _, rfl, rfl, St.sub hM12 (.cons _ (.cons_cons _ (List.Sublist.refl _)))⟩
        · rw [if_pos (by rfl)]
          refine ow_of_wl (ops := #[]) (by rfl) ?_
          apply wl_make 63 63 hD
          · rfl
          · rfl
          · exact rfl
          · exact rfl
          · infer_instance
          · infer_instance
          · infer_instance
          · exact rfl
          · exact rfl
          · decide
          · decide
          intro gm _ hM13
          refine q0_nil ?_
          refine hK.out _ _ ?_ (fun hHeld => ?_)
          · exact trivial
          clear hK K
          (try simp only [Act.put, List.setIfInBounds_toArray, List.set_cons_zero, List.set_cons_succ])
          refine wpAnyH_ready (rs := [0, 6]) (by kernel_rfl) (by simp) ?_
          refine (AllReadyH.cons (o := ⟨some 54, _, _, _, _, _⟩) rfl (fun K hK => ?_) (AllReadyH.cons (o := ⟨some 4, _, _, _, _, _⟩) rfl (fun K hK => ?_) AllReadyH.nil))
          · go_simp
            go_at_call 21
            refine (start_any _).mono ?_
            rintro _ _ ⟨rfl, h4⟩
            have hM14 := St.call0 hM13 h4
            clear h4
            refine hK.out _ _ ?_ (fun hHeld => ?_)
            · exact trivial
            clear hK K
            (try simp only [Act.put, List.setIfInBounds_toArray, List.set_cons_zero, List.set_cons_succ])
            refine wpAnyH_ready (rs := [2, 6]) (by kernel_rfl) (by simp) ?_
            refine (AllReadyH.cons (o := ⟨some 56, _, _, _, _, _⟩) rfl (fun K hK => ?_) (AllReadyH.cons (o := ⟨some 4, _, _, _, _, _⟩) rfl (fun K hK => ?_) AllReadyH.nil))
            · go_simp
              go_at_call 19
              refine (turn_no S8.start (List.replicate 63 0) _ 63 63 _ rfl (by decide)).mono ?_
              rintro _ _ ⟨he, h4⟩
              rw [if_neg (by decide)] at he
              subst he
              have hM15 := St.call0 hM14 h4
              clear h4
              refine hK.out _ _ ?_ (fun hHeld => ?_)
              · exact trivial
              clear hK K
              (try simp only [Act.put, List.setIfInBounds_toArray, List.set_cons_zero, List.set_cons_succ])
              refine wpAnyH_take (i := 3) (oi := ⟨some 53, _, _, _, _, _⟩) (v := ?_) rfl (by kernel_rfl) (by kernel_rfl) (by kernel_rfl) (fun _ _ _ h => h) (Or.inl ⟨by rfl, ?_⟩) (by assumption) ?_
              rotate_left
              · intro w hSw; (try dsimp only at hSw); go_simp; try with_reducible rfl
              (try simp only [Act.put, List.setIfInBounds_toArray, List.set_cons_zero, List.set_cons_succ])
              refine wpAnyH_take (i := 4) (oi := ⟨some 57, _, _, _, _, _⟩) (v := ?_) rfl (by kernel_rfl) (by kernel_rfl) (by kernel_rfl) (fun _ _ _ h => h) (Or.inl ⟨by rfl, ?_⟩) (by assumption) ?_
              rotate_left
              · intro w hSw; (try dsimp only at hSw); go_simp; try with_reducible rfl
              (try simp only [Act.put, List.setIfInBounds_toArray, List.set_cons_zero, List.set_cons_succ])
              refine wpAnyH_take (i := 5) (oi := ⟨some 58, _, _, _, _, _⟩) (v := ?_) rfl (by kernel_rfl) (by kernel_rfl) (by kernel_rfl) (fun _ _ _ h => h) (Or.inl ⟨by rfl, ?_⟩) (by assumption) ?_
              rotate_left
              · intro w hSw; (try dsimp only at hSw); go_simp; try with_reducible rfl
              (try simp only [Act.put, List.setIfInBounds_toArray, List.set_cons_zero, List.set_cons_succ])
              refine wpAnyH_ready (rs := [6]) (by kernel_rfl) (by simp) ?_
              refine (AllReadyH.cons (o := ⟨some 4, _, _, _, _, _⟩) rfl (fun K hK => ?_) AllReadyH.nil)
              rw [if_pos (by rfl)]
              refine ow_of_wl (ops := #[]) (by rfl) ?_
              refine wl_alloc hM15 rfl rfl ?_
              intro g5 _ hM16
              refine q0_nil ?_
              refine hK.out _ _ ?_ (fun hHeld => ?_)
              · exact trivial
              clear hK K
              (try simp only [Act.put, List.setIfInBounds_toArray, List.set_cons_zero, List.set_cons_succ])
              refine wpAnyH_ready (rs := [7]) (by kernel_rfl) (by simp) ?_
              refine (AllReadyH.cons (o := ⟨none, _, _, _, _, _⟩) rfl (fun K hK => ?_) AllReadyH.nil)
              rw [if_pos (by rfl)]
              refine ow_of_wl (ops := #[]) (by rfl) ?_
              refine wl_storeA [] hM16 rfl rfl rfl rfl rfl rfl rfl ?_
              intro _ hM17
              refine q0_nil ?_
              refine hK.out _ _ ?_ (fun hHeld => ?_)
              · exact trivial
              clear hK K
              (try simp only [Act.put, List.setIfInBounds_toArray, List.set_cons_zero, List.set_cons_succ])
              refine wpAnyH_take (i := 8) (oi := ⟨some 5, _, _, _, _, _⟩) (v := ?_) rfl (by kernel_rfl) (by kernel_rfl) (by kernel_rfl) (fun _ _ _ h => h) (Or.inl ⟨by rfl, ?_⟩) (by assumption) ?_
              rotate_left
              · intro w hSw; (try dsimp only at hSw); go_simp; try with_reducible rfl
              (try simp only [Act.put, List.setIfInBounds_toArray, List.set_cons_zero, List.set_cons_succ])
              refine wpAnyH_done (by kernel_rfl) ?_ _
              clear hHeld
              go_wp2_with (first | go_big_skip | go_big_guard | fail)
              go_meet
              exact ⟨g5, _, rfl, rfl, St.sub hM17 (.cons_cons _ (.cons _ (List.Sublist.refl _)))⟩
            · rw [if_pos (by rfl)]
              refine ow_of_wl (ops := #[]) (by rfl) ?_
              refine wl_alloc hM14 rfl rfl ?_
              intro g5 _ hM18
              refine q0_nil ?_
              refine hK.out _ _ ?_ (fun hHeld => ?_)
              · exact trivial
              clear hK K
              (try simp only [Act.put, List.setIfInBounds_toArray, List.set_cons_zero, List.set_cons_succ])
              refine wpAnyH_ready (rs := [2]) (by kernel_rfl) (by simp) ?_
              refine (AllReadyH.cons (o := ⟨some 56, _, _, _, _, _⟩) rfl (fun K hK => ?_) AllReadyH.nil)
              go_simp
              go_at_call 19
              refine (turn_no S8.start (List.replicate 63 0) _ 63 63 _ rfl (by decide)).mono ?_
              rintro _ _ ⟨he, h4⟩
              rw [if_neg (by decide)] at he
              subst he
              have hM19 := St.call0 hM18 h4
              clear h4
              refine hK.out _ _ ?_ (fun hHeld => ?_)
              · exact trivial
              clear hK K
              (try simp only [Act.put, List.setIfInBounds_toArray, List.set_cons_zero, List.set_cons_succ])
              refine wpAnyH_take (i := 3) (oi := ⟨some 53, _, _, _, _, _⟩) (v := ?_) rfl (by kernel_rfl) (by kernel_rfl) (by kernel_rfl) (fun _ _ _ h => h) (Or.inl ⟨by rfl, ?_⟩) (by assumption) ?_
              rotate_left
              · intro w hSw; (try dsimp only at hSw); go_simp; try with_reducible rfl
              (try simp only [Act.put, List.setIfInBounds_toArray, List.set_cons_zero, List.set_cons_succ])
              refine wpAnyH_take (i := 4) (oi := ⟨some 57, _, _, _, _, _⟩) (v := ?_) rfl (by kernel_rfl) (by kernel_rfl) (by kernel_rfl) (fun _ _ _ h => h) (Or.inl ⟨by rfl, ?_⟩) (by assumption) ?_
              rotate_left
              · intro w hSw; (try dsimp only at hSw); go_simp; try with_reducible rfl
              (try simp only [Act.put, List.setIfInBounds_toArray, List.set_cons_zero, List.set_cons_succ])
              refine wpAnyH_take (i := 5) (oi := ⟨some 58, _, _, _, _, _⟩) (v := ?_) rfl (by kernel_rfl) (by kernel_rfl) (by kernel_rfl) (fun _ _ _ h => h) (Or.inl ⟨by rfl, ?_⟩) (by assumption) ?_
              rotate_left
              · intro w hSw; (try dsimp only at hSw); go_simp; try with_reducible rfl
              (try simp only [Act.put, List.setIfInBounds_toArray, List.set_cons_zero, List.set_cons_succ])
              refine wpAnyH_ready (rs := [7]) (by kernel_rfl) (by simp) ?_
              refine (AllReadyH.cons (o := ⟨none, _, _, _, _, _⟩) rfl (fun K hK => ?_) AllReadyH.nil)
              rw [if_pos (by rfl)]
              refine ow_of_wl (ops := #[]) (by rfl) ?_
              refine wl_storeA [] hM19 rfl rfl rfl rfl rfl rfl rfl ?_
              intro _ hM20
              refine q0_nil ?_
              refine hK.out _ _ ?_ (fun hHeld => ?_)
              · exact trivial
              clear hK K
              (try simp only [Act.put, List.setIfInBounds_toArray, List.set_cons_zero, List.set_cons_succ])
              refine wpAnyH_take (i := 8) (oi := ⟨some 5, _, _, _, _, _⟩) (v := ?_) rfl (by kernel_rfl) (by kernel_rfl) (by kernel_rfl) (fun _ _ _ h => h) (Or.inl ⟨by rfl, ?_⟩) (by assumption) ?_
              rotate_left
              · intro w hSw; (try dsimp only at hSw); go_simp; try with_reducible rfl
              (try simp only [Act.put, List.setIfInBounds_toArray, List.set_cons_zero, List.set_cons_succ])
              refine wpAnyH_done (by kernel_rfl) ?_ _
              clear hHeld
              go_wp2_with (first | go_big_skip | go_big_guard | fail)
              go_meet
              exact ⟨g5, _, rfl, rfl, St.sub hM20 (.cons_cons _ (.cons _ (List.Sublist.refl _)))⟩
          · rw [if_pos (by rfl)]
            refine ow_of_wl (ops := #[]) (by rfl) ?_
            refine wl_alloc hM13 rfl rfl ?_
            intro g5 _ hM21
            refine q0_nil ?_
            refine hK.out _ _ ?_ (fun hHeld => ?_)
            · exact trivial
            clear hK K
            (try simp only [Act.put, List.setIfInBounds_toArray, List.set_cons_zero, List.set_cons_succ])
            refine wpAnyH_ready (rs := [0]) (by kernel_rfl) (by simp) ?_
            refine (AllReadyH.cons (o := ⟨some 54, _, _, _, _, _⟩) rfl (fun K hK => ?_) AllReadyH.nil)
            go_simp
            go_at_call 21
            refine (start_any _).mono ?_
            rintro _ _ ⟨rfl, h4⟩
            have hM22 := St.call0 hM21 h4
            clear h4
            refine hK.out _ _ ?_ (fun hHeld => ?_)
            · exact trivial
            clear hK K
            (try simp only [Act.put, List.setIfInBounds_toArray, List.set_cons_zero, List.set_cons_succ])
            refine wpAnyH_ready (rs := [2]) (by kernel_rfl) (by simp) ?_
            refine (AllReadyH.cons (o := ⟨some 56, _, _, _, _, _⟩) rfl (fun K hK => ?_) AllReadyH.nil)
            go_simp
            go_at_call 19
            refine (turn_no S8.start (List.replicate 63 0) _ 63 63 _ rfl (by decide)).mono ?_
            rintro _ _ ⟨he, h4⟩
            rw [if_neg (by decide)] at he
            subst he
            have hM23 := St.call0 hM22 h4
            clear h4
            refine hK.out _ _ ?_ (fun hHeld => ?_)
            · exact trivial
            clear hK K
            (try simp only [Act.put, List.setIfInBounds_toArray, List.set_cons_zero, List.set_cons_succ])
            refine wpAnyH_take (i := 3) (oi := ⟨some 53, _, _, _, _, _⟩) (v := ?_) rfl (by kernel_rfl) (by kernel_rfl) (by kernel_rfl) (fun _ _ _ h => h) (Or.inl ⟨by rfl, ?_⟩) (by assumption) ?_
            rotate_left
            · intro w hSw; (try dsimp only at hSw); go_simp; try with_reducible rfl
            (try simp only [Act.put, List.setIfInBounds_toArray, List.set_cons_zero, List.set_cons_succ])
            refine wpAnyH_take (i := 4) (oi := ⟨some 57, _, _, _, _, _⟩) (v := ?_) rfl (by kernel_rfl) (by kernel_rfl) (by kernel_rfl) (fun _ _ _ h => h) (Or.inl ⟨by rfl, ?_⟩) (by assumption) ?_
            rotate_left
            · intro w hSw; (try dsimp only at hSw); go_simp; try with_reducible rfl
            (try simp only [Act.put, List.setIfInBounds_toArray, List.set_cons_zero, List.set_cons_succ])
            refine wpAnyH_take (i := 5) (oi := ⟨some 58, _, _, _, _, _⟩) (v := ?_) rfl (by kernel_rfl) (by kernel_rfl) (by kernel_rfl) (fun _ _ _ h => h) (Or.inl ⟨by rfl, ?_⟩) (by assumption) ?_
            rotate_left
            · intro w hSw; (try dsimp only at hSw); go_simp; try with_reducible rfl
            (try simp only [Act.put, List.setIfInBounds_toArray, List.set_cons_zero, List.set_cons_succ])
            refine wpAnyH_ready (rs := [7]) (by kernel_rfl) (by simp) ?_
            refine (AllReadyH.cons (o := ⟨none, _, _, _, _, _⟩) rfl (fun K hK => ?_) AllReadyH.nil)
            rw [if_pos (by rfl)]
            refine ow_of_wl (ops := #[]) (by rfl) ?_
            refine wl_storeA [] hM23 rfl rfl rfl rfl rfl rfl rfl ?_
            intro _ hM24
            refine q0_nil ?_
            refine hK.out _ _ ?_ (fun hHeld => ?_)
            · exact trivial
            clear hK K
            (try simp only [Act.put, List.setIfInBounds_toArray, List.set_cons_zero, List.set_cons_succ])
            refine wpAnyH_take (i := 8) (oi := ⟨some 5, _, _, _, _, _⟩) (v := ?_) rfl (by kernel_rfl) (by kernel_rfl) (by kernel_rfl) (fun _ _ _ h => h) (Or.inl ⟨by rfl, ?_⟩) (by assumption) ?_
            rotate_left
            · intro w hSw; (try dsimp only at hSw); go_simp; try with_reducible rfl
            (try simp only [Act.put, List.setIfInBounds_toArray, List.set_cons_zero, List.set_cons_succ])
            refine wpAnyH_done (by kernel_rfl) ?_ _
            clear hHeld
            go_wp2_with (first | go_big_skip | go_big_guard | fail)
            go_meet
            exact ⟨g5, _, rfl, rfl, St.sub hM24 (.cons_cons _ (.cons _ (List.Sublist.refl _)))⟩
        · rw [if_pos (by rfl)]
          refine ow_of_wl (ops := #[]) (by rfl) ?_
          refine wl_alloc hD rfl rfl ?_
          intro g5 _ hM25
          refine q0_nil ?_
          refine hK.out _ _ ?_ (fun hHeld => ?_)
          · exact trivial
          clear hK K
          (try simp only [Act.put, List.setIfInBounds_toArray, List.set_cons_zero, List.set_cons_succ])
          refine wpAnyH_ready (rs := [0, 1]) (by kernel_rfl) (by simp) ?_
          refine (AllReadyH.cons (o := ⟨some 54, _, _, _, _, _⟩) rfl (fun K hK => ?_) (AllReadyH.cons (o := ⟨some 55, _, _, _, _, _⟩) rfl (fun K hK => ?_) AllReadyH.nil))
          · go_simp
            go_at_call 21
            refine (start_any _).mono ?_
            rintro _ _ ⟨rfl, h4⟩
            have hM26 := St.call0 hM25 h4
            clear h4
            refine hK.out _ _ ?_ (fun hHeld => ?_)
            · exact trivial
            clear hK K
            (try simp only [Act.put, List.setIfInBounds_toArray, List.set_cons_zero, List.set_cons_succ])
            refine wpAnyH_ready (rs := [1]) (by kernel_rfl) (by simp) ?_
            refine (AllReadyH.cons (o := ⟨some 55, _, _, _, _, _⟩) rfl (fun K hK => ?_) AllReadyH.nil)
            rw [if_pos (by rfl)]
            refine ow_of_wl (ops := #[]) (by rfl) ?_
            apply wl_make 63 63 hM26
            · rfl
            · rfl
            · exact rfl
            · exact rfl
            · infer_instance
            · infer_instance
            · infer_instance
            · exact rfl
            · exact rfl
            · decide
            · decide
            intro gm _ hM27
            refine q0_nil ?_
            refine hK.out _ _ ?_ (fun hHeld => ?_)
            · exact trivial
            clear hK K
            (try simp only [Act.put, List.setIfInBounds_toArray, List.set_cons_zero, List.set_cons_succ])
            refine wpAnyH_ready (rs := [2]) (by kernel_rfl) (by simp) ?_
            refine (AllReadyH.cons (o := ⟨some 56, _, _, _, _, _⟩) rfl (fun K hK => ?_) AllReadyH.nil)
            go_simp
            go_at_call 19
            refine (turn_no S8.start (List.replicate 63 0) _ 63 63 _ rfl (by decide)).mono ?_
            rintro _ _ ⟨he, h4⟩
            rw [if_neg (by decide)] at he
            subst he
            have hM28 := St.call0 hM27 h4
            clear h4
            refine hK.out _ _ ?_ (fun hHeld => ?_)
            · exact trivial
            clear hK K
            (try simp only [Act.put, List.setIfInBounds_toArray, List.set_cons_zero, List.set_cons_succ])
            refine wpAnyH_take (i := 3) (oi := ⟨some 53, _, _, _, _, _⟩) (v := ?_) rfl (by kernel_rfl) (by kernel_rfl) (by kernel_rfl) (fun _ _ _ h => h) (Or.inl ⟨by rfl, ?_⟩) (by assumption) ?_
            rotate_left
            · intro w hSw; (try dsimp only at hSw); go_simp; try with_reducible rfl
            (try simp only [Act.put, List.setIfInBounds_toArray, List.set_cons_zero, List.set_cons_succ])
            refine wpAnyH_take (i := 4) (oi := ⟨some 57, _, _, _, _, _⟩) (v := ?_) rfl (by kernel_rfl) (by kernel_rfl) (by kernel_rfl) (fun _ _ _ h => h) (Or.inl ⟨by rfl, ?_⟩) (by assumption) ?_
            rotate_left
            · intro w hSw; (try dsimp only at hSw); go_simp; try with_reducible rfl
            (try simp only [Act.put, List.setIfInBounds_toArray, List.set_cons_zero, List.set_cons_succ])
            refine wpAnyH_take (i := 5) (oi := ⟨some 58, _, _, _, _, _⟩) (v := ?_) rfl (by kernel_rfl) (by kernel_rfl) (by kernel_rfl) (fun _ _ _ h => h) (Or.inl ⟨by rfl, ?_⟩) (by assumption) ?_
            rotate_left
            · intro w hSw; (try dsimp only at hSw); go_simp; try with_reducible rfl
            (try simp only [Act.put, List.setIfInBounds_toArray, List.set_cons_zero, List.set_cons_succ])
            refine wpAnyH_ready (rs := [7]) (by kernel_rfl) (by simp) ?_
            refine (AllReadyH.cons (o := ⟨none, _, _, _, _, _⟩) rfl (fun K hK => ?_) AllReadyH.nil)
            rw [if_pos (by rfl)]
            refine ow_of_wl (ops := #[]) (by rfl) ?_
            refine wl_storeA [_] hM28 rfl rfl rfl rfl rfl rfl rfl ?_
            intro _ hM29
            refine q0_nil ?_
            refine hK.out _ _ ?_ (fun hHeld => ?_)
            · exact trivial
            clear hK K
            (try simp only [Act.put, List.setIfInBounds_toArray, List.set_cons_zero, List.set_cons_succ])
            refine wpAnyH_take (i := 8) (oi := ⟨some 5, _, _, _, _, _⟩) (v := ?_) rfl (by kernel_rfl) (by kernel_rfl) (by kernel_rfl) (fun _ _ _ h => h) (Or.inl ⟨by rfl, ?_⟩) (by assumption) ?_
            rotate_left
            · intro w hSw; (try dsimp only at hSw); go_simp; try with_reducible rfl
            (try simp only [Act.put, List.setIfInBounds_toArray, List.set_cons_zero, List.set_cons_succ])
            refine wpAnyH_done (by kernel_rfl) ?_ _
            clear hHeld
            go_wp2_with (first | go_big_skip | go_big_guard | fail)
            go_meet
            exact ⟨g5, _, rfl, rfl, St.sub hM29 (.cons _ (.cons_cons _ (List.Sublist.refl _)))⟩
          · rw [if_pos (by rfl)]
            refine ow_of_wl (ops := #[]) (by rfl) ?_
            apply wl_make 63 63 hM25
            · rfl
            · rfl
            · exact rfl
            · exact rfl
            · infer_instance
            · infer_instance
            · infer_instance
            · exact rfl
            · exact rfl
            · decide
            · decide
            intro gm _ hM30
            refine q0_nil ?_
            refine hK.out _ _ ?_ (fun hHeld => ?_)
            · exact trivial
            clear hK K
            (try simp only [Act.put, List.setIfInBounds_toArray, List.set_cons_zero, List.set_cons_succ])
            refine wpAnyH_ready (rs := [0]) (by kernel_rfl) (by simp) ?_
            refine (AllReadyH.cons (o := ⟨some 54, _, _, _, _, _⟩) rfl (fun K hK => ?_) AllReadyH.nil)
            go_simp
            go_at_call 21
            refine (start_any _).mono ?_
            rintro _ _ ⟨rfl, h4⟩
            have hM31 := St.call0 hM30 h4
            clear h4
            refine hK.out _ _ ?_ (fun hHeld => ?_)
            · exact trivial
            clear hK K
            (try simp only [Act.put, List.setIfInBounds_toArray, List.set_cons_zero, List.set_cons_succ])
            refine wpAnyH_ready (rs := [2]) (by kernel_rfl) (by simp) ?_
            refine (AllReadyH.cons (o := ⟨some 56, _, _, _, _, _⟩) rfl (fun K hK => ?_) AllReadyH.nil)
            go_simp
            go_at_call 19
            refine (turn_no S8.start (List.replicate 63 0) _ 63 63 _ rfl (by decide)).mono ?_
            rintro _ _ ⟨he, h4⟩
            rw [if_neg (by decide)] at he
            subst he
            have hM32 := St.call0 hM31 h4
            clear h4
            refine hK.out _ _ ?_ (fun hHeld => ?_)
            · exact trivial
            clear hK K
            (try simp only [Act.put, List.setIfInBounds_toArray, List.set_cons_zero, List.set_cons_succ])
            refine wpAnyH_take (i := 3) (oi := ⟨some 53, _, _, _, _, _⟩) (v := ?_) rfl (by kernel_rfl) (by kernel_rfl) (by kernel_rfl) (fun _ _ _ h => h) (Or.inl ⟨by rfl, ?_⟩) (by assumption) ?_
            rotate_left
            · intro w hSw; (try dsimp only at hSw); go_simp; try with_reducible rfl
            (try simp only [Act.put, List.setIfInBounds_toArray, List.set_cons_zero, List.set_cons_succ])
            refine wpAnyH_take (i := 4) (oi := ⟨some 57, _, _, _, _, _⟩) (v := ?_) rfl (by kernel_rfl) (by kernel_rfl) (by kernel_rfl) (fun _ _ _ h => h) (Or.inl ⟨by rfl, ?_⟩) (by assumption) ?_
            rotate_left
            · intro w hSw; (try dsimp only at hSw); go_simp; try with_reducible rfl
            (try simp only [Act.put, List.setIfInBounds_toArray, List.set_cons_zero, List.set_cons_succ])
            refine wpAnyH_take (i := 5) (oi := ⟨some 58, _, _, _, _, _⟩) (v := ?_) rfl (by kernel_rfl) (by kernel_rfl) (by kernel_rfl) (fun _ _ _ h => h) (Or.inl ⟨by rfl, ?_⟩) (by assumption) ?_
            rotate_left
            · intro w hSw; (try dsimp only at hSw); go_simp; try with_reducible rfl
            (try simp only [Act.put, List.setIfInBounds_toArray, List.set_cons_zero, List.set_cons_succ])
            refine wpAnyH_ready (rs := [7]) (by kernel_rfl) (by simp) ?_
            refine (AllReadyH.cons (o := ⟨none, _, _, _, _, _⟩) rfl (fun K hK => ?_) AllReadyH.nil)
            rw [if_pos (by rfl)]
            refine ow_of_wl (ops := #[]) (by rfl) ?_
            refine wl_storeA [_] hM32 rfl rfl rfl rfl rfl rfl rfl ?_
            intro _ hM33
            refine q0_nil ?_
            refine hK.out _ _ ?_ (fun hHeld => ?_)
            · exact trivial
            clear hK K
            (try simp only [Act.put, List.setIfInBounds_toArray, List.set_cons_zero, List.set_cons_succ])
            refine wpAnyH_take (i := 8) (oi := ⟨some 5, _, _, _, _, _⟩) (v := ?_) rfl (by kernel_rfl) (by kernel_rfl) (by kernel_rfl) (fun _ _ _ h => h) (Or.inl ⟨by rfl, ?_⟩) (by assumption) ?_
            rotate_left
            · intro w hSw; (try dsimp only at hSw); go_simp; try with_reducible rfl
            (try simp only [Act.put, List.setIfInBounds_toArray, List.set_cons_zero, List.set_cons_succ])
            refine wpAnyH_done (by kernel_rfl) ?_ _
            clear hHeld
            go_wp2_with (first | go_big_skip | go_big_guard | fail)
            go_meet
            exact ⟨g5, _, rfl, rfl, St.sub hM33 (.cons _ (.cons_cons _ (List.Sublist.refl _)))⟩
      case rest =>
        clear hst
        obtain ⟨g5, X5, rfl, rfl, hst⟩ := hcut
        go_wp2_with (first | go_big_skip | go_big_guard | (go_at_call 27; first | (refine (parse_any [] (by decide) _).mono ?_; rw [HPE.out]; (try dsimp only); rintro _ _ ⟨rfl, h4⟩; have hp1 := St.call0 hst h4; clear h4 hst) | (refine (parse_any G (by rw [HGl.out]; decide) _).mono ?_; rw [HPG.out]; (try dsimp only); rintro _ _ ⟨rfl, h4⟩; have hp6 := St.call0 hp5 h4; clear h4 hp5)) | (refine wl_alloc (T := 29) hp1 rfl rfl ?_; intro g6 _ hp2; clear hp1) | (refine wl_alloc (T := 47) hp2 rfl rfl ?_; intro g7 _ hp3; clear hp2) | (refine wl_storeA [_] hp3 rfl rfl rfl rfl rfl rfl rfl ?_; intro _ hp4; clear hp3) | (refine wl_storeA [] hp4 rfl rfl rfl rfl rfl rfl rfl ?_; intro _ hp5; clear hp4) | (refine wl_bytes_string (n := 64) (l := G) rfl rfl rfl (Rd.blk hp5 (.tail _ (.tail _ (.tail _ (.head _)))) (Nat.le_refl _) (by decide) (by rw [length_bytesV, HGl.out]) (by rw [List.drop_zero, List.take_length])) ?_) | (refine wl_alloc (T := 29) hp6 rfl rfl ?_; intro g8 _ hp7; clear hp6) | (refine wl_alloc (T := 47) hp7 rfl rfl ?_; intro g9 _ hp8; clear hp7) | (refine wl_storeA [_] hp8 rfl rfl rfl rfl rfl rfl rfl ?_; intro _ hp9; clear hp8) | (refine wl_storeA [] hp9 rfl rfl rfl rfl rfl rfl rfl ?_; intro _ hp10; clear hp9) | (apply wl_bsX (bytesV longB) (bytesV longB) hp10; rfl; rfl; (kernel_rfl); (kernel_rfl); infer_instance; infer_instance; rfl; rfl; rfl; intro gl _ hq1; clear hp10) | (refine wl_convSS (L1 := []) hq1 rfl rfl rfl ?_; intro _ hq2; clear hq1) | (go_at_call 14; first | (refine (sum_any (some ⟨gl, 0, none⟩) 56 56 longB _ (Rd.frz0 hq2 (.head _) rfl (by decide)) rfl (by decide)).mono ?_; rw [← HD.out]; rintro _ _ ⟨rfl, h4⟩; have hq3 := St.call0 hq2 h4; clear h4 hq2) | (refine (sum_any none 0 0 [] _ (Rd.nil _ _) rfl (by decide)).mono ?_; rw [← HE.out]; rintro _ _ ⟨rfl, h4⟩; have hq7 := St.call0 hq6 h4; clear h4 hq6)) | (refine wl_alloc (T := 29) hq3 rfl rfl ?_; intro g10 _ hq4; clear hq3) | (refine wl_storeA [] hq4 rfl rfl rfl rfl HDV.out HDO.out rfl ?_; intro _ hq5; clear hq4) | (refine wl_loadE rfl rfl rfl ?_; first | refine ⟨_, Loads.atA ([.int .i64 4, .int .i64 0]) [_, _, _, _] hq5 (rfl) (rfl), ?_⟩ | refine ⟨_, Loads.atA ([.int .i64 2, .int .i64 0]) [_, _] hq5 (rfl) (rfl), ?_⟩ | refine ⟨_, Loads.atA (bytesV D) [_, _] hr3 (HDV.out) (List.take_length), ?_⟩ | refine ⟨_, Loads.atA (bytesV D) [_, _, _, _] hr6 (HDV.out) (List.take_length), ?_⟩) | (refine wl_buildX (cs := [.int .i64 4, .int .i64 0]) (parts := #[(0, .const (.int .i64 4))]) [(0, .int .i64 4)] rfl rfl (by exact rfl) (by kernel_rfl) ?_) | (refine wl_buildX (cs := [.int .i64 2, .int .i64 0]) (parts := #[(0, .const (.int .i64 2))]) [(0, .int .i64 2)] rfl rfl (by exact rfl) (by kernel_rfl) ?_) | (go_at_call 9; refine (awake_any _).mono ?_; rintro _ _ ⟨rfl, h4⟩; have hq6 := St.call0 hq5 h4; clear h4 hq5) | (apply wl_bsX [.int _ _, .int _ _, .int _ _, .int _ _] [.int _ _, .int _ _, .int _ _, .int _ _] hq7; rfl; rfl; exact rfl; exact rfl; infer_instance; infer_instance; rfl; rfl; rfl; intro e1 _ hr1; clear hq7) | (apply wl_bsX [.int _ _, .int _ _, .int _ _, .int _ _] [.int _ _, .int _ _, .int _ _, .int _ _] hr1; rfl; rfl; exact rfl; exact rfl; infer_instance; infer_instance; rfl; rfl; rfl; intro e2 _ hr2; clear hr1) | (go_at_call 28; first | (refine (ends_any E [227, 176, 196, 66] [120, 82, 184, 85] _ _ 4 4 _ HE32.out (Rd.blk hr2 (.tail _ (.head _)) (by decide) (by decide) rfl rfl) (Rd.blk0 hr2 rfl (by decide))).mono ?_; rw [HE4.out]; rintro _ _ ⟨rfl, h4⟩; have hr3 := St.call0 hr2 h4; clear h4 hr2) | (refine (ends_any D [36, 141, 106, 97] [25, 219, 6, 193] _ _ 4 4 _ HD32.out (Rd.blk hr5 (.tail _ (.head _)) (by decide) (by decide) rfl rfl) (Rd.blk0 hr5 rfl (by decide))).mono ?_; rw [HD4.out]; rintro _ _ ⟨rfl, h4⟩; have hr6 := St.call0 hr5 h4; clear h4 hr5)) | (apply wl_bsX [.int _ _, .int _ _, .int _ _, .int _ _] [.int _ _, .int _ _, .int _ _, .int _ _] hr3; rfl; rfl; exact rfl; exact rfl; infer_instance; infer_instance; rfl; rfl; rfl; intro e3 _ hr4; clear hr3) | (apply wl_bsX [.int _ _, .int _ _, .int _ _, .int _ _] [.int _ _, .int _ _, .int _ _, .int _ _] hr4; rfl; rfl; exact rfl; exact rfl; infer_instance; infer_instance; rfl; rfl; rfl; intro e4 _ hr5; clear hr4) | (go_at_call 29; refine (less_any D D HD32.out HD32.out _).mono ?_; rw [HDL.out]; rintro _ _ ⟨rfl, h4⟩; have hr7 := St.call0 hr6 h4; clear h4 hr6))
        go_ret
        exact ⟨rfl, hr7.nil⟩
end Go.Proofs.Ytilgjldnlgfehaa
