/- What the claims of chapter 13 rest on (for bundle.py alone). -/
import Derived.Test.YtifajcblbedcoaaJBasef
import Derived.Test.YtifajcblbedcoaaPost
import Derived.Test.YtifajcblbedcoaaOpenP
namespace Go.Proofs.Ytifajcblbedcoaa
set_option linter.unusedVariables false
set_option linter.unusedSimpArgs false
open Go.RowKit Hp
attribute [local irreducible] Go.Calls Go.wpList
set_option maxRecDepth 100000
set_option maxHeartbeats 8000000
attribute [local go_sem ↓] heldInt heldInts heldRecs heldRec heldStr heldTab heldPtr heldFn
theorem bldNew (ao : Option Addr) (n c : Nat) : Try.prog.built 27 [(0, .int .i64 1), (3, .slice ao n c)] = some #[.int .i64 1, .slice none 0 0, .int .i64 0, .int .i64 0, .int .i64 0, .int .i64 0, .slice ao n c] := by kernel_rfl
theorem resize13_any (t : TC) (ar al : Option Addr) (nr cr nl cl : Nat) (xs : List (Value × RC)) (w : World) (ht : TabIn w t ar nr cr al nl cl xs) (nm : List UInt8) (size : Int) (hnm : nm.length ≤ 1000000) : Calls Try.prog 15 #[.agg (tabC t (.slice ar nr cr) (.slice al nl cl)).toArray, .string ⟨nm.toArray⟩, .int .i64 size] w (TabRet (opR t (resizeT t nm size)) w) := by
  have hst0 := St.refl w
  have HT := hid ht
  clear ht
  obtain ⟨r, hr⟩ : ∃ r, r = opR t (resizeT t nm size) := ⟨_, rfl⟩
  rw [← hr]
  have HR := hid (show r = opR t (changeT t nm (inB size 1 64) fun v => { v with size := size }) from hr)
  clear hr
  go_enter Try.func15, Try.ntmps15
  go_wp2_with (first | go_big_skip | go_big_guard | (refine wl_boxA hst0 rfl rfl rfl ?_; intro g3 w1 hA0; clear hst0) | (refine wl_box hA0 rfl rfl rfl ?_; intro g5 _ hA1; clear hA0) | (refine wl_alloc hA1 rfl rfl ?_; intro g6 _ hst; clear hA1))
  have hX := hst.drew
  clear hst
  refine wp_region_held_drew (S := (fun w' => (loadVarH 27 ⟨g3, 0, none⟩).run Try.prog w' = .ok (.agg (List.toArray ((tabC t (.slice ar nr cr) (.slice al nl cl))))) w' ∧ (loadVarH 3 ⟨g5, 0, none⟩).run Try.prog w' = .ok (.int .i64 size) w')) (by kernel_rfl) (by exact ⟨ldA ((tabC t (.slice ar nr cr) (.slice al nl cl))) [_, _] hX (rfl) (rfl), ldS [_] hX rfl⟩) (fun hHeld => ?_)
  refine wpAnyH_take (i := 0) (oi := ⟨some 8, _, _, _, _, _⟩) (v := ?_) rfl (by kernel_rfl) (by kernel_rfl) (by kernel_rfl) (fun _ _ _ h => h) (Or.inl ⟨by rfl, ?_⟩) (by assumption) ?_
  rotate_left
  · intro w hSw; (try dsimp only at hSw); go_simp; try with_reducible rfl
  (try simp only [Act.put, List.setIfInBounds_toArray, List.set_cons_zero, List.set_cons_succ])
  refine wpAnyH_take (i := 1) (oi := ⟨some 9, _, _, _, _, _⟩) (v := ?_) rfl (by kernel_rfl) (by kernel_rfl) (by kernel_rfl) (fun _ _ _ h => h) (Or.inl ⟨by rfl, ?_⟩) (by assumption) ?_
  rotate_left
  · intro w hSw; (try dsimp only at hSw); go_simp; try with_reducible rfl
  (try simp only [Act.put, List.setIfInBounds_toArray, List.set_cons_zero, List.set_cons_succ])
  refine wpAnyH_take (i := 2) (oi := ⟨some 10, _, _, _, _, _⟩) (v := ?_) rfl (by kernel_rfl) (by kernel_rfl) (by kernel_rfl) (fun _ _ _ h => h) (Or.inl ⟨by rfl, ?_⟩) (by assumption) ?_
  rotate_left
  · intro w hSw; (try dsimp only at hSw); go_simp; try with_reducible rfl
  (try simp only [Act.put, List.setIfInBounds_toArray, List.set_cons_zero, List.set_cons_succ])
  refine wpAnyH_ready (rs := [3, 4]) (by kernel_rfl) (by simp) ?_
  refine (AllReadyH.cons (o := ⟨some 11, _, _, _, _, _⟩) rfl (fun K hK => ?_) (AllReadyH.cons (o := ⟨some 12, _, _, _, _, _⟩) rfl (fun K hK => ?_) AllReadyH.nil))
  · rw [if_pos (by rfl)]
    go_simp
    go_at_call 27
    refine (sized_any size _).mono ?_
    rintro _ w5 ⟨rfl, h4⟩
    have hC1 := St.call0 hX h4
    clear h4
    refine hK.out _ _ ?_ (fun hHeld => ?_)
    · exact ⟨ldA ((tabC t (.slice ar nr cr) (.slice al nl cl))) [_, _] hC1 (rfl) (rfl), ldS [_] hC1 rfl⟩
    clear hK K
    (try simp only [Act.put, List.setIfInBounds_toArray, List.set_cons_zero, List.set_cons_succ])
    refine wpAnyH_ready (rs := [4]) (by kernel_rfl) (by simp) ?_
    refine (AllReadyH.cons (o := ⟨some 12, _, _, _, _, _⟩) rfl (fun K hK => ?_) AllReadyH.nil)
    rw [if_pos (by rfl)]
    refine ow_of_wl (ops := #[]) (by rfl) ?_
    refine wl_mkFunc rfl rfl ?_
    refine q0_nil ?_
    refine hK.out _ _ ?_ (fun hHeld => ?_)
    · exact ⟨ldA ((tabC t (.slice ar nr cr) (.slice al nl cl))) [_, _] hC1 (rfl) (rfl), ldS [_] hC1 rfl⟩
    clear hK K
    (try simp only [Act.put, List.setIfInBounds_toArray, List.set_cons_zero, List.set_cons_succ])
    refine wpAnyH_ready (rs := [5]) (by kernel_rfl) (by simp) ?_
    refine (AllReadyH.cons (o := ⟨some 13, _, _, _, _, _⟩) rfl (fun K hK => ?_) AllReadyH.nil)
    rw [if_pos (by rfl)]
    go_simp
    go_at_call 42
    refine (change13_any t ar al nr cr nl cl xs _ (HT.out.old hC1.nil) nm (inB size 1 64) 43 #[.pointer (some ⟨g5, 0, none⟩)] (fun v => { v with size := size }) (fun _ _ => rfl) (fun w2 h => resizeV size (St.old_cell h (hC1.cell (g := g5) (off := 0) (.tail _ (.head _)) rfl) (by simp))) hnm).mono ?_
    rw [← HR.out]
    rintro _ w9 ⟨rv9, lv9, xs9, rfl, hok9, h4⟩
    have h5 := St.call hC1 h4
    obtain ⟨a9, c9, rfl, _, _⟩ := rowS [] h5
    obtain ⟨a8, c8, rfl, _, _⟩ := rowS [_] h5
    have hD2 := St.perm h5 List.perm_append_comm
    have HOK := hid hok9
    clear hok9 h4 h5
    refine hK.out _ _ ?_ (fun hHeld => ?_)
    · exact ⟨ldA ((tabC t (.slice ar nr cr) (.slice al nl cl))) [_, _] hD2 (rfl) (rfl), ldS [_] hD2 rfl⟩
    clear hK K
    (try simp only [Act.put, List.setIfInBounds_toArray, List.set_cons_zero, List.set_cons_succ])
    refine wpAnyH_take (i := 6) (oi := ⟨some 14, _, _, _, _, _⟩) (v := ?_) rfl (by kernel_rfl) (by kernel_rfl) (by kernel_rfl) (fun _ _ _ h => h) (Or.inl ⟨by rfl, ?_⟩) (by assumption) ?_
    rotate_left
    · intro w hSw; (try dsimp only at hSw); go_simp; try with_reducible rfl
    (try simp only [Act.put, List.setIfInBounds_toArray, List.set_cons_zero, List.set_cons_succ])
    refine wpAnyH_take (i := 7) (oi := ⟨some 15, _, _, _, _, _⟩) (v := ?_) rfl (by kernel_rfl) (by kernel_rfl) (by kernel_rfl) (fun _ _ _ h => h) (Or.inl ⟨by rfl, ?_⟩) (by assumption) ?_
    rotate_left
    · intro w hSw; (try dsimp only at hSw); go_simp; try with_reducible rfl
    (try simp only [Act.put, List.setIfInBounds_toArray, List.set_cons_zero, List.set_cons_succ])
    refine wpAnyH_ready (rs := [8]) (by kernel_rfl) (by simp) ?_
    refine (AllReadyH.cons (o := ⟨none, _, _, _, _, _⟩) rfl (fun K hK => ?_) AllReadyH.nil)
    rw [if_pos (by rfl)]
    refine ow_of_wl (ops := #[]) (by rfl) ?_
    refine wl_storeA [] hD2 rfl rfl rfl rfl (vs := tabC r.2 (.slice a9 xs9.length c9) (.slice a8 r.2.lives.length c8)) rfl rfl rfl ?_
    intro w7 hst3
    refine q0_nil ?_
    refine hK.out _ _ ?_ (fun hHeld => ?_)
    · exact ⟨ldA ((tabC t (.slice ar nr cr) (.slice al nl cl))) [_, _] hst3 (rfl) (rfl), ldS [_] hst3 rfl⟩
    clear hK K
    (try simp only [Act.put, List.setIfInBounds_toArray, List.set_cons_zero, List.set_cons_succ])
    refine wpAnyH_take (i := 9) (oi := ⟨some 7, _, _, _, _, _⟩) (v := ?_) rfl (by kernel_rfl) (by kernel_rfl) (by kernel_rfl) (fun _ _ _ h => h) (Or.inl ⟨by rfl, ?_⟩) (by assumption) ?_
    rotate_left
    · intro w hSw; (try dsimp only at hSw); go_simp; try with_reducible rfl
    (try simp only [Act.put, List.setIfInBounds_toArray, List.set_cons_zero, List.set_cons_succ])
    refine wpAnyH_done (by kernel_rfl) ?_ _
    clear hHeld
    go_wp2_with (first | go_big_skip | go_big_guard | fail)
    have hl := Loads.atA (P := Try.prog) (off := 0) (T := 27) (tabC r.2 (.slice a9 xs9.length c9) (.slice a8 r.2.lives.length c8)) [] hst3 rfl rfl
    refine bodyPost_ret (results_cellR rfl rfl rfl hl) rfl ?_
    exact ⟨_, _, xs9, rfl, HOK.out, St.sub hst3 (List.sublist_append_right [_, _, _] _)⟩
  · rw [if_pos (by rfl)]
    refine ow_of_wl (ops := #[]) (by rfl) ?_
    refine wl_mkFunc rfl rfl ?_
    refine q0_nil ?_
    refine hK.out _ _ ?_ (fun hHeld => ?_)
    · exact ⟨ldA ((tabC t (.slice ar nr cr) (.slice al nl cl))) [_, _] hX (rfl) (rfl), ldS [_] hX rfl⟩
    clear hK K
    (try simp only [Act.put, List.setIfInBounds_toArray, List.set_cons_zero, List.set_cons_succ])
    refine wpAnyH_ready (rs := [3]) (by kernel_rfl) (by simp) ?_
    refine (AllReadyH.cons (o := ⟨some 11, _, _, _, _, _⟩) rfl (fun K hK => ?_) AllReadyH.nil)
    rw [if_pos (by rfl)]
    go_simp
    go_at_call 27
    refine (sized_any size _).mono ?_
    rintro _ w5 ⟨rfl, h4⟩
    have hC3 := St.call0 hX h4
    clear h4
    refine hK.out _ _ ?_ (fun hHeld => ?_)
    · exact ⟨ldA ((tabC t (.slice ar nr cr) (.slice al nl cl))) [_, _] hC3 (rfl) (rfl), ldS [_] hC3 rfl⟩
    clear hK K
    (try simp only [Act.put, List.setIfInBounds_toArray, List.set_cons_zero, List.set_cons_succ])
    refine wpAnyH_ready (rs := [5]) (by kernel_rfl) (by simp) ?_
    refine (AllReadyH.cons (o := ⟨some 13, _, _, _, _, _⟩) rfl (fun K hK => ?_) AllReadyH.nil)
    rw [if_pos (by rfl)]
    go_simp
    go_at_call 42
    refine (change13_any t ar al nr cr nl cl xs _ (HT.out.old hC3.nil) nm (inB size 1 64) 43 #[.pointer (some ⟨g5, 0, none⟩)] (fun v => { v with size := size }) (fun _ _ => rfl) (fun w2 h => resizeV size (St.old_cell h (hC3.cell (g := g5) (off := 0) (.tail _ (.head _)) rfl) (by simp))) hnm).mono ?_
    rw [← HR.out]
    rintro _ w9 ⟨rv9, lv9, xs9, rfl, hok9, h4⟩
    have h5 := St.call hC3 h4
    obtain ⟨a9, c9, rfl, _, _⟩ := rowS [] h5
    obtain ⟨a8, c8, rfl, _, _⟩ := rowS [_] h5
    have hD4 := St.perm h5 List.perm_append_comm
    have HOK := hid hok9
    clear hok9 h4 h5
    refine hK.out _ _ ?_ (fun hHeld => ?_)
    · exact ⟨ldA ((tabC t (.slice ar nr cr) (.slice al nl cl))) [_, _] hD4 (rfl) (rfl), ldS [_] hD4 rfl⟩
    clear hK K
    (try simp only [Act.put, List.setIfInBounds_toArray, List.set_cons_zero, List.set_cons_succ])
    refine wpAnyH_take (i := 6) (oi := ⟨some 14, _, _, _, _, _⟩) (v := ?_) rfl (by kernel_rfl) (by kernel_rfl) (by kernel_rfl) (fun _ _ _ h => h) (Or.inl ⟨by rfl, ?_⟩) (by assumption) ?_
    rotate_left
    · intro w hSw; (try dsimp only at hSw); go_simp; try with_reducible rfl
    (try simp only [Act.put, List.setIfInBounds_toArray, List.set_cons_zero, List.set_cons_succ])
    refine wpAnyH_take (i := 7) (oi := ⟨some 15, _, _, _, _, _⟩) (v := ?_) rfl (by kernel_rfl) (by kernel_rfl) (by kernel_rfl) (fun _ _ _ h => h) (Or.inl ⟨by rfl, ?_⟩) (by assumption) ?_
    rotate_left
    · intro w hSw; (try dsimp only at hSw); go_simp; try with_reducible rfl
    (try simp only [Act.put, List.setIfInBounds_toArray, List.set_cons_zero, List.set_cons_succ])
    refine wpAnyH_ready (rs := [8]) (by kernel_rfl) (by simp) ?_
    refine (AllReadyH.cons (o := ⟨none, _, _, _, _, _⟩) rfl (fun K hK => ?_) AllReadyH.nil)
    rw [if_pos (by rfl)]
    refine ow_of_wl (ops := #[]) (by rfl) ?_
    refine wl_storeA [] hD4 rfl rfl rfl rfl (vs := tabC r.2 (.slice a9 xs9.length c9) (.slice a8 r.2.lives.length c8)) rfl rfl rfl ?_
    intro w7 hst3
    refine q0_nil ?_
    refine hK.out _ _ ?_ (fun hHeld => ?_)
    · exact ⟨ldA ((tabC t (.slice ar nr cr) (.slice al nl cl))) [_, _] hst3 (rfl) (rfl), ldS [_] hst3 rfl⟩
    clear hK K
    (try simp only [Act.put, List.setIfInBounds_toArray, List.set_cons_zero, List.set_cons_succ])
    refine wpAnyH_take (i := 9) (oi := ⟨some 7, _, _, _, _, _⟩) (v := ?_) rfl (by kernel_rfl) (by kernel_rfl) (by kernel_rfl) (fun _ _ _ h => h) (Or.inl ⟨by rfl, ?_⟩) (by assumption) ?_
    rotate_left
    · intro w hSw; (try dsimp only at hSw); go_simp; try with_reducible rfl
    (try simp only [Act.put, List.setIfInBounds_toArray, List.set_cons_zero, List.set_cons_succ])
    refine wpAnyH_done (by kernel_rfl) ?_ _
    clear hHeld
    go_wp2_with (first | go_big_skip | go_big_guard | fail)
    have hl := Loads.atA (P := Try.prog) (off := 0) (T := 27) (tabC r.2 (.slice a9 xs9.length c9) (.slice a8 r.2.lives.length c8)) [] hst3 rfl rfl
    refine bodyPost_ret (results_cellR rfl rfl rfl hl) rfl ?_
    exact ⟨_, _, xs9, rfl, HOK.out, St.sub hst3 (List.sublist_append_right [_, _, _] _)⟩
theorem limits13_any (t : TC) (ar al : Option Addr) (nr cr nl cl : Nat) (xs : List (Value × RC)) (w : World) (ht : TabIn w t ar nr cr al nl cl xs) (nm : List UInt8) (q z : Int) (hnm : nm.length ≤ 1000000) : Calls Try.prog 16 #[.agg (tabC t (.slice ar nr cr) (.slice al nl cl)).toArray, .string ⟨nm.toArray⟩, .int .i64 q, .int .i64 z] w (TabRet (opR t (limitT t nm q z)) w) := by
  have hst0 := St.refl w
  have HT := hid ht
  clear ht
  obtain ⟨r, hr⟩ : ∃ r, r = opR t (limitT t nm q z) := ⟨_, rfl⟩
  rw [← hr]
  cases hq : limB q
  · have HL := hid hq
    have HR := hid (show r = opR t (changeT t nm false fun v => { v with quota := q, reserve := z }) by rw [hr]; unfold limitT; rw [hq]; rfl)
    clear hr hq
    go_enter Try.func16, Try.ntmps16
    go_wp2_with (first | go_big_skip | go_big_guard | (refine wl_boxA hst0 rfl rfl rfl ?_; intro g4 w1 hA0; clear hst0) | (refine wl_box hA0 rfl rfl rfl ?_; intro g6 _ hA1; clear hA0) | (refine wl_box hA1 rfl rfl rfl ?_; intro g7 _ hA2; clear hA1) | (refine wl_alloc hA2 rfl rfl ?_; intro g8 _ hst; clear hA2))
    have hX := hst.drew
    clear hst
    refine wp_region_held_drew (S := (fun w' => (loadVarH 27 ⟨g4, 0, none⟩).run Try.prog w' = .ok (.agg (List.toArray ((tabC t (.slice ar nr cr) (.slice al nl cl))))) w' ∧ (loadVarH 3 ⟨g6, 0, none⟩).run Try.prog w' = .ok (.int .i64 q) w' ∧ (loadVarH 3 ⟨g7, 0, none⟩).run Try.prog w' = .ok (.int .i64 z) w')) (by kernel_rfl) (by exact ⟨ldA ((tabC t (.slice ar nr cr) (.slice al nl cl))) [_, _, _] hX (rfl) (rfl), ldS [_, _] hX rfl, ldS [_] hX rfl⟩) (fun hHeld => ?_)
    refine wpAnyH_take (i := 0) (oi := ⟨some 10, _, _, _, _, _⟩) (v := ?_) rfl (by kernel_rfl) (by kernel_rfl) (by kernel_rfl) (fun _ _ _ h => h) (Or.inl ⟨by rfl, ?_⟩) (by assumption) ?_
    rotate_left
    · intro w hSw; (try dsimp only at hSw); go_simp; try with_reducible rfl
    (try simp only [Act.put, List.setIfInBounds_toArray, List.set_cons_zero, List.set_cons_succ])
    refine wpAnyH_take (i := 1) (oi := ⟨some 11, _, _, _, _, _⟩) (v := ?_) rfl (by kernel_rfl) (by kernel_rfl) (by kernel_rfl) (fun _ _ _ h => h) (Or.inl ⟨by rfl, ?_⟩) (by assumption) ?_
    rotate_left
    · intro w hSw; (try dsimp only at hSw); go_simp; try with_reducible rfl
    (try simp only [Act.put, List.setIfInBounds_toArray, List.set_cons_zero, List.set_cons_succ])
    refine wpAnyH_take (i := 2) (oi := ⟨some 12, _, _, _, _, _⟩) (v := ?_) rfl (by kernel_rfl) (by kernel_rfl) (by kernel_rfl) (fun _ _ _ h => h) (Or.inl ⟨by rfl, ?_⟩) (by assumption) ?_
    rotate_left
    · intro w hSw; (try dsimp only at hSw); go_simp; try with_reducible rfl
    (try simp only [Act.put, List.setIfInBounds_toArray, List.set_cons_zero, List.set_cons_succ])
    refine wpAnyH_ready (rs := [3, 8]) (by kernel_rfl) (by simp) ?_
    refine (AllReadyH.cons (o := ⟨some 13, _, _, _, _, _⟩) rfl (fun K hK => ?_) (AllReadyH.cons (o := ⟨some 18, _, _, _, _, _⟩) rfl (fun K hK => ?_) AllReadyH.nil))
    · rw [if_pos (by rfl)]
      go_simp
      go_at_call 44
      refine (limit13_any q _).mono ?_
      rw [HL.out]
      rintro _ w5 ⟨rfl, h4⟩
      have hC5 := St.call0 hX h4
      clear h4
      refine hK.out _ _ ?_ (fun hHeld => ?_)
      · exact ⟨ldA ((tabC t (.slice ar nr cr) (.slice al nl cl))) [_, _, _] hC5 (rfl) (rfl), ldS [_, _] hC5 rfl, ldS [_] hC5 rfl⟩
      clear hK K
      (try simp only [Act.put, List.setIfInBounds_toArray, List.set_cons_zero, List.set_cons_succ])
      refine wpAnyH_take (i := 4) (oi := ⟨some 14, _, _, _, _, _⟩) (v := ?_) rfl (by kernel_rfl) (by kernel_rfl) (by kernel_rfl) (fun _ _ _ h => h) (Or.inl ⟨by rfl, ?_⟩) (by assumption) ?_
      rotate_left
      · intro w hSw; (try dsimp only at hSw); go_simp; try with_reducible rfl
      (try simp only [Act.put, List.setIfInBounds_toArray, List.set_cons_zero, List.set_cons_succ])
      refine wpAnyH_take (i := 5) (oi := ⟨some 15, _, _, _, _, _⟩) (v := undef) rfl (by kernel_rfl) (by kernel_rfl) (by kernel_rfl) (fun _ _ _ h => h) (Or.inr ⟨by rfl, rfl⟩) (by assumption) ?_
      (try simp only [Act.put, List.setIfInBounds_toArray, List.set_cons_zero, List.set_cons_succ])
      refine wpAnyH_ready (rs := [6, 8]) (by kernel_rfl) (by simp) ?_
      refine (AllReadyH.cons (o := ⟨some 16, _, _, _, _, _⟩) rfl (fun K hK => ?_) (AllReadyH.cons (o := ⟨some 18, _, _, _, _, _⟩) rfl (fun K hK => ?_) AllReadyH.nil))
      · rw [if_neg (by rw [show Region.wanted _ _ = false from rfl]; exact Bool.false_ne_true)]
        refine hK.out _ _ ?_ (fun hHeld => ?_)
        · exact ⟨ldA ((tabC t (.slice ar nr cr) (.slice al nl cl))) [_, _, _] hC5 (rfl) (rfl), ldS [_, _] hC5 rfl, ldS [_] hC5 rfl⟩
        clear hK K
        (try simp only [Act.put, List.setIfInBounds_toArray, List.set_cons_zero, List.set_cons_succ])
        refine wpAnyH_take (i := 7) (oi := ⟨some 17, _, _, _, _, _⟩) (v := ?_) rfl (by kernel_rfl) (by kernel_rfl) (by kernel_rfl) (fun _ _ _ h => h) (Or.inl ⟨by rfl, ?_⟩) (by assumption) ?_
        rotate_left
        · intro w hSw; (try dsimp only at hSw); go_simp; try with_reducible rfl
        (try simp only [Act.put, List.setIfInBounds_toArray, List.set_cons_zero, List.set_cons_succ])
        refine wpAnyH_ready (rs := [8]) (by kernel_rfl) (by simp) ?_
        refine (AllReadyH.cons (o := ⟨some 18, _, _, _, _, _⟩) rfl (fun K hK => ?_) AllReadyH.nil)
        rw [if_pos (by rfl)]
        refine ow_of_wl (ops := #[]) (by rfl) ?_
        refine wl_mkFunc rfl rfl ?_
        refine q0_nil ?_
        refine hK.out _ _ ?_ (fun hHeld => ?_)
        · exact ⟨ldA ((tabC t (.slice ar nr cr) (.slice al nl cl))) [_, _, _] hC5 (rfl) (rfl), ldS [_, _] hC5 rfl, ldS [_] hC5 rfl⟩
        clear hK K
        (try simp only [Act.put, List.setIfInBounds_toArray, List.set_cons_zero, List.set_cons_succ])
        refine wpAnyH_ready (rs := [9]) (by kernel_rfl) (by simp) ?_
        refine (AllReadyH.cons (o := ⟨some 19, _, _, _, _, _⟩) rfl (fun K hK => ?_) AllReadyH.nil)
        rw [if_pos (by rfl)]
        go_simp
        go_at_call 42
        refine (change13_any t ar al nr cr nl cl xs _ (HT.out.old hC5.nil) nm (false) 45 #[.pointer (some ⟨g6, 0, none⟩), .pointer (some ⟨g7, 0, none⟩)] (fun v => { v with quota := q, reserve := z }) (fun _ _ => rfl) (fun w2 h => limitV q z (St.old_cell h (hC5.cell (g := g6) (off := 0) (.tail _ (.tail _ (.head _))) rfl) (by simp)) (St.old_cell h (hC5.cell (g := g7) (off := 0) (.tail _ (.head _)) rfl) (by simp))) hnm).mono ?_
        rw [← HR.out]
        rintro _ w9 ⟨rv9, lv9, xs9, rfl, hok9, h4⟩
        have h5 := St.call hC5 h4
        obtain ⟨a9, c9, rfl, _, _⟩ := rowS [] h5
        obtain ⟨a8, c8, rfl, _, _⟩ := rowS [_] h5
        have hD6 := St.perm h5 List.perm_append_comm
        have HOK := hid hok9
        clear hok9 h4 h5
        refine hK.out _ _ ?_ (fun hHeld => ?_)
        · exact ⟨ldA ((tabC t (.slice ar nr cr) (.slice al nl cl))) [_, _, _] hD6 (rfl) (rfl), ldS [_, _] hD6 rfl, ldS [_] hD6 rfl⟩
        clear hK K
        (try simp only [Act.put, List.setIfInBounds_toArray, List.set_cons_zero, List.set_cons_succ])
        refine wpAnyH_take (i := 10) (oi := ⟨some 20, _, _, _, _, _⟩) (v := ?_) rfl (by kernel_rfl) (by kernel_rfl) (by kernel_rfl) (fun _ _ _ h => h) (Or.inl ⟨by rfl, ?_⟩) (by assumption) ?_
        rotate_left
        · intro w hSw; (try dsimp only at hSw); go_simp; try with_reducible rfl
        (try simp only [Act.put, List.setIfInBounds_toArray, List.set_cons_zero, List.set_cons_succ])
        refine wpAnyH_take (i := 11) (oi := ⟨some 21, _, _, _, _, _⟩) (v := ?_) rfl (by kernel_rfl) (by kernel_rfl) (by kernel_rfl) (fun _ _ _ h => h) (Or.inl ⟨by rfl, ?_⟩) (by assumption) ?_
        rotate_left
        · intro w hSw; (try dsimp only at hSw); go_simp; try with_reducible rfl
        (try simp only [Act.put, List.setIfInBounds_toArray, List.set_cons_zero, List.set_cons_succ])
        refine wpAnyH_ready (rs := [12]) (by kernel_rfl) (by simp) ?_
        refine (AllReadyH.cons (o := ⟨none, _, _, _, _, _⟩) rfl (fun K hK => ?_) AllReadyH.nil)
        rw [if_pos (by rfl)]
        refine ow_of_wl (ops := #[]) (by rfl) ?_
        refine wl_storeA [] hD6 rfl rfl rfl rfl (vs := tabC r.2 (.slice a9 xs9.length c9) (.slice a8 r.2.lives.length c8)) rfl rfl rfl ?_
        intro w7 hst3
        refine q0_nil ?_
        refine hK.out _ _ ?_ (fun hHeld => ?_)
        · exact ⟨ldA ((tabC t (.slice ar nr cr) (.slice al nl cl))) [_, _, _] hst3 (rfl) (rfl), ldS [_, _] hst3 rfl, ldS [_] hst3 rfl⟩
        clear hK K
        (try simp only [Act.put, List.setIfInBounds_toArray, List.set_cons_zero, List.set_cons_succ])
        refine wpAnyH_take (i := 13) (oi := ⟨some 9, _, _, _, _, _⟩) (v := ?_) rfl (by kernel_rfl) (by kernel_rfl) (by kernel_rfl) (fun _ _ _ h => h) (Or.inl ⟨by rfl, ?_⟩) (by assumption) ?_
        rotate_left
        · intro w hSw; (try dsimp only at hSw); go_simp; try with_reducible rfl
        (try simp only [Act.put, List.setIfInBounds_toArray, List.set_cons_zero, List.set_cons_succ])
        refine wpAnyH_done (by kernel_rfl) ?_ _
        clear hHeld
        go_wp2_with (first | go_big_skip | go_big_guard | fail)
        have hl := Loads.atA (P := Try.prog) (off := 0) (T := 27) (tabC r.2 (.slice a9 xs9.length c9) (.slice a8 r.2.lives.length c8)) [] hst3 rfl rfl
        refine bodyPost_ret (results_cellR rfl rfl rfl hl) rfl ?_
        exact ⟨_, _, xs9, rfl, HOK.out, St.sub hst3 (List.sublist_append_right [_, _, _, _] _)⟩
      · rw [if_pos (by rfl)]
        refine ow_of_wl (ops := #[]) (by rfl) ?_
        refine wl_mkFunc rfl rfl ?_
        refine q0_nil ?_
        refine hK.out _ _ ?_ (fun hHeld => ?_)
        · exact ⟨ldA ((tabC t (.slice ar nr cr) (.slice al nl cl))) [_, _, _] hC5 (rfl) (rfl), ldS [_, _] hC5 rfl, ldS [_] hC5 rfl⟩
        clear hK K
        (try simp only [Act.put, List.setIfInBounds_toArray, List.set_cons_zero, List.set_cons_succ])
        refine wpAnyH_ready (rs := [6]) (by kernel_rfl) (by simp) ?_
        refine (AllReadyH.cons (o := ⟨some 16, _, _, _, _, _⟩) rfl (fun K hK => ?_) AllReadyH.nil)
        rw [if_neg (by rw [show Region.wanted _ _ = false from rfl]; exact Bool.false_ne_true)]
        refine hK.out _ _ ?_ (fun hHeld => ?_)
        · exact ⟨ldA ((tabC t (.slice ar nr cr) (.slice al nl cl))) [_, _, _] hC5 (rfl) (rfl), ldS [_, _] hC5 rfl, ldS [_] hC5 rfl⟩
        clear hK K
        (try simp only [Act.put, List.setIfInBounds_toArray, List.set_cons_zero, List.set_cons_succ])
        refine wpAnyH_take (i := 7) (oi := ⟨some 17, _, _, _, _, _⟩) (v := ?_) rfl (by kernel_rfl) (by kernel_rfl) (by kernel_rfl) (fun _ _ _ h => h) (Or.inl ⟨by rfl, ?_⟩) (by assumption) ?_
        rotate_left
        · intro w hSw; (try dsimp only at hSw); go_simp; try with_reducible rfl
        (try simp only [Act.put, List.setIfInBounds_toArray, List.set_cons_zero, List.set_cons_succ])
        refine wpAnyH_ready (rs := [9]) (by kernel_rfl) (by simp) ?_
        refine (AllReadyH.cons (o := ⟨some 19, _, _, _, _, _⟩) rfl (fun K hK => ?_) AllReadyH.nil)
        rw [if_pos (by rfl)]
        go_simp
        go_at_call 42
        refine (change13_any t ar al nr cr nl cl xs _ (HT.out.old hC5.nil) nm (false) 45 #[.pointer (some ⟨g6, 0, none⟩), .pointer (some ⟨g7, 0, none⟩)] (fun v => { v with quota := q, reserve := z }) (fun _ _ => rfl) (fun w2 h => limitV q z (St.old_cell h (hC5.cell (g := g6) (off := 0) (.tail _ (.tail _ (.head _))) rfl) (by simp)) (St.old_cell h (hC5.cell (g := g7) (off := 0) (.tail _ (.head _)) rfl) (by simp))) hnm).mono ?_
        rw [← HR.out]
        rintro _ w9 ⟨rv9, lv9, xs9, rfl, hok9, h4⟩
        have h5 := St.call hC5 h4
        obtain ⟨a9, c9, rfl, _, _⟩ := rowS [] h5
        obtain ⟨a8, c8, rfl, _, _⟩ := rowS [_] h5
        have hD7 := St.perm h5 List.perm_append_comm
        have HOK := hid hok9
        clear hok9 h4 h5
        refine hK.out _ _ ?_ (fun hHeld => ?_)
        · exact ⟨ldA ((tabC t (.slice ar nr cr) (.slice al nl cl))) [_, _, _] hD7 (rfl) (rfl), ldS [_, _] hD7 rfl, ldS [_] hD7 rfl⟩
        clear hK K
        (try simp only [Act.put, List.setIfInBounds_toArray, List.set_cons_zero, List.set_cons_succ])
        refine wpAnyH_take (i := 10) (oi := ⟨some 20, _, _, _, _, _⟩) (v := ?_) rfl (by kernel_rfl) (by kernel_rfl) (by kernel_rfl) (fun _ _ _ h => h) (Or.inl ⟨by rfl, ?_⟩) (by assumption) ?_
        rotate_left
        · intro w hSw; (try dsimp only at hSw); go_simp; try with_reducible rfl
        (try simp only [Act.put, List.setIfInBounds_toArray, List.set_cons_zero, List.set_cons_succ])
        refine wpAnyH_take (i := 11) (oi := ⟨some 21, _, _, _, _, _⟩) (v := ?_) rfl (by kernel_rfl) (by kernel_rfl) (by kernel_rfl) (fun _ _ _ h => h) (Or.inl ⟨by rfl, ?_⟩) (by assumption) ?_
        rotate_left
        · intro w hSw; (try dsimp only at hSw); go_simp; try with_reducible rfl
        (try simp only [Act.put, List.setIfInBounds_toArray, List.set_cons_zero, List.set_cons_succ])
        refine wpAnyH_ready (rs := [12]) (by kernel_rfl) (by simp) ?_
        refine (AllReadyH.cons (o := ⟨none, _, _, _, _, _⟩) rfl (fun K hK => ?_) AllReadyH.nil)
        rw [if_pos (by rfl)]
        refine ow_of_wl (ops := #[]) (by rfl) ?_
        refine wl_storeA [] hD7 rfl rfl rfl rfl (vs := tabC r.2 (.slice a9 xs9.length c9) (.slice a8 r.2.lives.length c8)) rfl rfl rfl ?_
        intro w7 hst3
        refine q0_nil ?_
        refine hK.out _ _ ?_ (fun hHeld => ?_)
        · exact ⟨ldA ((tabC t (.slice ar nr cr) (.slice al nl cl))) [_, _, _] hst3 (rfl) (rfl), ldS [_, _] hst3 rfl, ldS [_] hst3 rfl⟩
        clear hK K
        (try simp only [Act.put, List.setIfInBounds_toArray, List.set_cons_zero, List.set_cons_succ])
        refine wpAnyH_take (i := 13) (oi := ⟨some 9, _, _, _, _, _⟩) (v := ?_) rfl (by kernel_rfl) (by kernel_rfl) (by kernel_rfl) (fun _ _ _ h => h) (Or.inl ⟨by rfl, ?_⟩) (by assumption) ?_
        rotate_left
        · intro w hSw; (try dsimp only at hSw); go_simp; try with_reducible rfl
        (try simp only [Act.put, List.setIfInBounds_toArray, List.set_cons_zero, List.set_cons_succ])
        refine wpAnyH_done (by kernel_rfl) ?_ _
        clear hHeld
        go_wp2_with (first | go_big_skip | go_big_guard | fail)
        have hl := Loads.atA (P := Try.prog) (off := 0) (T := 27) (tabC r.2 (.slice a9 xs9.length c9) (.slice a8 r.2.lives.length c8)) [] hst3 rfl rfl
        refine bodyPost_ret (results_cellR rfl rfl rfl hl) rfl ?_
        exact ⟨_, _, xs9, rfl, HOK.out, St.sub hst3 (List.sublist_append_right [_, _, _, _] _)⟩
    · rw [if_pos (by rfl)]
      refine ow_of_wl (ops := #[]) (by rfl) ?_
      refine wl_mkFunc rfl rfl ?_
      refine q0_nil ?_
      refine hK.out _ _ ?_ (fun hHeld => ?_)
      · exact ⟨ldA ((tabC t (.slice ar nr cr) (.slice al nl cl))) [_, _, _] hX (rfl) (rfl), ldS [_, _] hX rfl, ldS [_] hX rfl⟩
      clear hK K
      (try simp only [Act.put, List.setIfInBounds_toArray, List.set_cons_zero, List.set_cons_succ])
      refine wpAnyH_ready (rs := [3]) (by kernel_rfl) (by simp) ?_
      refine (AllReadyH.cons (o := ⟨some 13, _, _, _, _, _⟩) rfl (fun K hK => ?_) AllReadyH.nil)
      rw [if_pos (by rfl)]
      go_simp
      go_at_call 44
      refine (limit13_any q _).mono ?_
      rw [HL.out]
      rintro _ w5 ⟨rfl, h4⟩
      have hC8 := St.call0 hX h4
      clear h4
      refine hK.out _ _ ?_ (fun hHeld => ?_)
      · exact ⟨ldA ((tabC t (.slice ar nr cr) (.slice al nl cl))) [_, _, _] hC8 (rfl) (rfl), ldS [_, _] hC8 rfl, ldS [_] hC8 rfl⟩
      clear hK K
      (try simp only [Act.put, List.setIfInBounds_toArray, List.set_cons_zero, List.set_cons_succ])
      refine wpAnyH_take (i := 4) (oi := ⟨some 14, _, _, _, _, _⟩) (v := ?_) rfl (by kernel_rfl) (by kernel_rfl) (by kernel_rfl) (fun _ _ _ h => h) (Or.inl ⟨by rfl, ?_⟩) (by assumption) ?_
      rotate_left
      · intro w hSw; (try dsimp only at hSw); go_simp; try with_reducible rfl
      (try simp only [Act.put, List.setIfInBounds_toArray, List.set_cons_zero, List.set_cons_succ])
      refine wpAnyH_take (i := 5) (oi := ⟨some 15, _, _, _, _, _⟩) (v := undef) rfl (by kernel_rfl) (by kernel_rfl) (by kernel_rfl) (fun _ _ _ h => h) (Or.inr ⟨by rfl, rfl⟩) (by assumption) ?_
      (try simp only [Act.put, List.setIfInBounds_toArray, List.set_cons_zero, List.set_cons_succ])
      refine wpAnyH_ready (rs := [6]) (by kernel_rfl) (by simp) ?_
      refine (AllReadyH.cons (o := ⟨some 16, _, _, _, _, _⟩) rfl (fun K hK => ?_) AllReadyH.nil)
      rw [if_neg (by rw [show Region.wanted _ _ = false from rfl]; exact Bool.false_ne_true)]
      refine hK.out _ _ ?_ (fun hHeld => ?_)
      · exact ⟨ldA ((tabC t (.slice ar nr cr) (.slice al nl cl))) [_, _, _] hC8 (rfl) (rfl), ldS [_, _] hC8 rfl, ldS [_] hC8 rfl⟩
      clear hK K
      (try simp only [Act.put, List.setIfInBounds_toArray, List.set_cons_zero, List.set_cons_succ])
      refine wpAnyH_take (i := 7) (oi := ⟨some 17, _, _, _, _, _⟩) (v := ?_) rfl (by kernel_rfl) (by kernel_rfl) (by kernel_rfl) (fun _ _ _ h => h) (Or.inl ⟨by rfl, ?_⟩) (by assumption) ?_
      rotate_left
      · intro w hSw; (try dsimp only at hSw); go_simp; try with_reducible rfl
      (try simp only [Act.put, List.setIfInBounds_toArray, List.set_cons_zero, List.set_cons_succ])
      refine wpAnyH_ready (rs := [9]) (by kernel_rfl) (by simp) ?_
      refine (AllReadyH.cons (o := ⟨some 19, _, _, _, _, _⟩) rfl (fun K hK => ?_) AllReadyH.nil)
      rw [if_pos (by rfl)]
      go_simp
      go_at_call 42
      refine (change13_any t ar al nr cr nl cl xs _ (HT.out.old hC8.nil) nm (false) 45 #[.pointer (some ⟨g6, 0, none⟩), .pointer (some ⟨g7, 0, none⟩)] (fun v => { v with quota := q, reserve := z }) (fun _ _ => rfl) (fun w2 h => limitV q z (St.old_cell h (hC8.cell (g := g6) (off := 0) (.tail _ (.tail _ (.head _))) rfl) (by simp)) (St.old_cell h (hC8.cell (g := g7) (off := 0) (.tail _ (.head _)) rfl) (by simp))) hnm).mono ?_
      rw [← HR.out]
      rintro _ w9 ⟨rv9, lv9, xs9, rfl, hok9, h4⟩
      have h5 := St.call hC8 h4
      obtain ⟨a9, c9, rfl, _, _⟩ := rowS [] h5
      obtain ⟨a8, c8, rfl, _, _⟩ := rowS [_] h5
      have hD9 := St.perm h5 List.perm_append_comm
      have HOK := hid hok9
      clear hok9 h4 h5
      refine hK.out _ _ ?_ (fun hHeld => ?_)
      · exact ⟨ldA ((tabC t (.slice ar nr cr) (.slice al nl cl))) [_, _, _] hD9 (rfl) (rfl), ldS [_, _] hD9 rfl, ldS [_] hD9 rfl⟩
      clear hK K
      (try simp only [Act.put, List.setIfInBounds_toArray, List.set_cons_zero, List.set_cons_succ])
      refine wpAnyH_take (i := 10) (oi := ⟨some 20, _, _, _, _, _⟩) (v := ?_) rfl (by kernel_rfl) (by kernel_rfl) (by kernel_rfl) (fun _ _ _ h => h) (Or.inl ⟨by rfl, ?_⟩) (by assumption) ?_
      rotate_left
      · intro w hSw; (try dsimp only at hSw); go_simp; try with_reducible rfl
      (try simp only [Act.put, List.setIfInBounds_toArray, List.set_cons_zero, List.set_cons_succ])
      refine wpAnyH_take (i := 11) (oi := ⟨some 21, _, _, _, _, _⟩) (v := ?_) rfl (by kernel_rfl) (by kernel_rfl) (by kernel_rfl) (fun _ _ _ h => h) (Or.inl ⟨by rfl, ?_⟩) (by assumption) ?_
      rotate_left
      · intro w hSw; (try dsimp only at hSw); go_simp; try with_reducible rfl
      (try simp only [Act.put, List.setIfInBounds_toArray, List.set_cons_zero, List.set_cons_succ])
      refine wpAnyH_ready (rs := [12]) (by kernel_rfl) (by simp) ?_
      refine (AllReadyH.cons (o := ⟨none, _, _, _, _, _⟩) rfl (fun K hK => ?_) AllReadyH.nil)
      rw [if_pos (by rfl)]
      refine ow_of_wl (ops := #[]) (by rfl) ?_
      refine wl_storeA [] hD9 rfl rfl rfl rfl (vs := tabC r.2 (.slice a9 xs9.length c9) (.slice a8 r.2.lives.length c8)) rfl rfl rfl ?_
      intro w7 hst3
      refine q0_nil ?_
      refine hK.out _ _ ?_ (fun hHeld => ?_)
      · exact ⟨ldA ((tabC t (.slice ar nr cr) (.slice al nl cl))) [_, _, _] hst3 (rfl) (rfl), ldS [_, _] hst3 rfl, ldS [_] hst3 rfl⟩
      clear hK K
      (try simp only [Act.put, List.setIfInBounds_toArray, List.set_cons_zero, List.set_cons_succ])
      refine wpAnyH_take (i := 13) (oi := ⟨some 9, _, _, _, _, _⟩) (v := ?_) rfl (by kernel_rfl) (by kernel_rfl) (by kernel_rfl) (fun _ _ _ h => h) (Or.inl ⟨by rfl, ?_⟩) (by assumption) ?_
      rotate_left
      · intro w hSw; (try dsimp only at hSw); go_simp; try with_reducible rfl
      (try simp only [Act.put, List.setIfInBounds_toArray, List.set_cons_zero, List.set_cons_succ])
      refine wpAnyH_done (by kernel_rfl) ?_ _
      clear hHeld
      go_wp2_with (first | go_big_skip | go_big_guard | fail)
      have hl := Loads.atA (P := Try.prog) (off := 0) (T := 27) (tabC r.2 (.slice a9 xs9.length c9) (.slice a8 r.2.lives.length c8)) [] hst3 rfl rfl
      refine bodyPost_ret (results_cellR rfl rfl rfl hl) rfl ?_
      exact ⟨_, _, xs9, rfl, HOK.out, St.sub hst3 (List.sublist_append_right [_, _, _, _] _)⟩
  · have HL := hid hq
    have HR := hid (show r = opR t (changeT t nm (limB z) fun v => { v with quota := q, reserve := z }) by rw [hr]; unfold limitT; rw [hq]; rfl)
    clear hr hq
    go_enter Try.func16, Try.ntmps16
    go_wp2_with (first | go_big_skip | go_big_guard | (refine wl_boxA hst0 rfl rfl rfl ?_; intro g4 w1 hA0; clear hst0) | (refine wl_box hA0 rfl rfl rfl ?_; intro g6 _ hA1; clear hA0) | (refine wl_box hA1 rfl rfl rfl ?_; intro g7 _ hA2; clear hA1) | (refine wl_alloc hA2 rfl rfl ?_; intro g8 _ hst; clear hA2))
    have hX := hst.drew
    clear hst
    refine wp_region_held_drew (S := (fun w' => (loadVarH 27 ⟨g4, 0, none⟩).run Try.prog w' = .ok (.agg (List.toArray ((tabC t (.slice ar nr cr) (.slice al nl cl))))) w' ∧ (loadVarH 3 ⟨g6, 0, none⟩).run Try.prog w' = .ok (.int .i64 q) w' ∧ (loadVarH 3 ⟨g7, 0, none⟩).run Try.prog w' = .ok (.int .i64 z) w')) (by kernel_rfl) (by exact ⟨ldA ((tabC t (.slice ar nr cr) (.slice al nl cl))) [_, _, _] hX (rfl) (rfl), ldS [_, _] hX rfl, ldS [_] hX rfl⟩) (fun hHeld => ?_)
    refine wpAnyH_take (i := 0) (oi := ⟨some 10, _, _, _, _, _⟩) (v := ?_) rfl (by kernel_rfl) (by kernel_rfl) (by kernel_rfl) (fun _ _ _ h => h) (Or.inl ⟨by rfl, ?_⟩) (by assumption) ?_
    rotate_left
    · intro w hSw; (try dsimp only at hSw); go_simp; try with_reducible rfl
    (try simp only [Act.put, List.setIfInBounds_toArray, List.set_cons_zero, List.set_cons_succ])
    refine wpAnyH_take (i := 1) (oi := ⟨some 11, _, _, _, _, _⟩) (v := ?_) rfl (by kernel_rfl) (by kernel_rfl) (by kernel_rfl) (fun _ _ _ h => h) (Or.inl ⟨by rfl, ?_⟩) (by assumption) ?_
    rotate_left
    · intro w hSw; (try dsimp only at hSw); go_simp; try with_reducible rfl
    (try simp only [Act.put, List.setIfInBounds_toArray, List.set_cons_zero, List.set_cons_succ])
    refine wpAnyH_take (i := 2) (oi := ⟨some 12, _, _, _, _, _⟩) (v := ?_) rfl (by kernel_rfl) (by kernel_rfl) (by kernel_rfl) (fun _ _ _ h => h) (Or.inl ⟨by rfl, ?_⟩) (by assumption) ?_
    rotate_left
    · intro w hSw; (try dsimp only at hSw); go_simp; try with_reducible rfl
    (try simp only [Act.put, List.setIfInBounds_toArray, List.set_cons_zero, List.set_cons_succ])
    refine wpAnyH_ready (rs := [3, 8]) (by kernel_rfl) (by simp) ?_
    refine (AllReadyH.cons (o := ⟨some 13, _, _, _, _, _⟩) rfl (fun K hK => ?_) (AllReadyH.cons (o := ⟨some 18, _, _, _, _, _⟩) rfl (fun K hK => ?_) AllReadyH.nil))
    · rw [if_pos (by rfl)]
      go_simp
      go_at_call 44
      refine (limit13_any q _).mono ?_
      rw [HL.out]
      rintro _ w5 ⟨rfl, h4⟩
      have hC10 := St.call0 hX h4
      clear h4
      refine hK.out _ _ ?_ (fun hHeld => ?_)
      · exact ⟨ldA ((tabC t (.slice ar nr cr) (.slice al nl cl))) [_, _, _] hC10 (rfl) (rfl), ldS [_, _] hC10 rfl, ldS [_] hC10 rfl⟩
      clear hK K
      (try simp only [Act.put, List.setIfInBounds_toArray, List.set_cons_zero, List.set_cons_succ])
      refine wpAnyH_take (i := 4) (oi := ⟨some 14, _, _, _, _, _⟩) (v := ?_) rfl (by kernel_rfl) (by kernel_rfl) (by kernel_rfl) (fun _ _ _ h => h) (Or.inl ⟨by rfl, ?_⟩) (by assumption) ?_
      rotate_left
      · intro w hSw; (try dsimp only at hSw); go_simp; try with_reducible rfl
      (try simp only [Act.put, List.setIfInBounds_toArray, List.set_cons_zero, List.set_cons_succ])
      refine wpAnyH_take (i := 5) (oi := ⟨some 15, _, _, _, _, _⟩) (v := ?_) rfl (by kernel_rfl) (by kernel_rfl) (by kernel_rfl) (fun _ _ _ h => h) (Or.inl ⟨by rfl, ?_⟩) (by assumption) ?_
      rotate_left
      · intro w hSw; (try dsimp only at hSw); go_simp; try with_reducible rfl
      (try simp only [Act.put, List.setIfInBounds_toArray, List.set_cons_zero, List.set_cons_succ])
      refine wpAnyH_ready (rs := [6, 8]) (by kernel_rfl) (by simp) ?_
      refine (AllReadyH.cons (o := ⟨some 16, _, _, _, _, _⟩) rfl (fun K hK => ?_) (AllReadyH.cons (o := ⟨some 18, _, _, _, _, _⟩) rfl (fun K hK => ?_) AllReadyH.nil))
      · rw [if_pos (by rfl)]
        go_simp
        go_at_call 44
        refine (limit13_any z _).mono ?_
        rintro _ w5 ⟨rfl, h4⟩
        have hC11 := St.call0 hC10 h4
        clear h4
        refine hK.out _ _ ?_ (fun hHeld => ?_)
        · exact ⟨ldA ((tabC t (.slice ar nr cr) (.slice al nl cl))) [_, _, _] hC11 (rfl) (rfl), ldS [_, _] hC11 rfl, ldS [_] hC11 rfl⟩
        clear hK K
        (try simp only [Act.put, List.setIfInBounds_toArray, List.set_cons_zero, List.set_cons_succ])
        refine wpAnyH_take (i := 7) (oi := ⟨some 17, _, _, _, _, _⟩) (v := ?_) rfl (by kernel_rfl) (by kernel_rfl) (by kernel_rfl) (fun _ _ _ h => h) (Or.inl ⟨by rfl, ?_⟩) (by assumption) ?_
        rotate_left
        · intro w hSw; (try dsimp only at hSw); go_simp; try with_reducible rfl
        (try simp only [Act.put, List.setIfInBounds_toArray, List.set_cons_zero, List.set_cons_succ])
        refine wpAnyH_ready (rs := [8]) (by kernel_rfl) (by simp) ?_
        refine (AllReadyH.cons (o := ⟨some 18, _, _, _, _, _⟩) rfl (fun K hK => ?_) AllReadyH.nil)
        rw [if_pos (by rfl)]
        refine ow_of_wl (ops := #[]) (by rfl) ?_
        refine wl_mkFunc rfl rfl ?_
        refine q0_nil ?_
        refine hK.out _ _ ?_ (fun hHeld => ?_)
        · exact ⟨ldA ((tabC t (.slice ar nr cr) (.slice al nl cl))) [_, _, _] hC11 (rfl) (rfl), ldS [_, _] hC11 rfl, ldS [_] hC11 rfl⟩
        clear hK K
        (try simp only [Act.put, List.setIfInBounds_toArray, List.set_cons_zero, List.set_cons_succ])
        refine wpAnyH_ready (rs := [9]) (by kernel_rfl) (by simp) ?_
        refine (AllReadyH.cons (o := ⟨some 19, _, _, _, _, _⟩) rfl (fun K hK => ?_) AllReadyH.nil)
        rw [if_pos (by rfl)]
        go_simp
        go_at_call 42
        refine (change13_any t ar al nr cr nl cl xs _ (HT.out.old hC11.nil) nm (limB z) 45 #[.pointer (some ⟨g6, 0, none⟩), .pointer (some ⟨g7, 0, none⟩)] (fun v => { v with quota := q, reserve := z }) (fun _ _ => rfl) (fun w2 h => limitV q z (St.old_cell h (hC11.cell (g := g6) (off := 0) (.tail _ (.tail _ (.head _))) rfl) (by simp)) (St.old_cell h (hC11.cell (g := g7) (off := 0) (.tail _ (.head _)) rfl) (by simp))) hnm).mono ?_
        rw [← HR.out]
        rintro _ w9 ⟨rv9, lv9, xs9, rfl, hok9, h4⟩
        have h5 := St.call hC11 h4
        obtain ⟨a9, c9, rfl, _, _⟩ := rowS [] h5
        obtain ⟨a8, c8, rfl, _, _⟩ := rowS [_] h5
        have hD12 := St.perm h5 List.perm_append_comm
        have HOK := hid hok9
        clear hok9 h4 h5
        refine hK.out _ _ ?_ (fun hHeld => ?_)
        · exact ⟨ldA ((tabC t (.slice ar nr cr) (.slice al nl cl))) [_, _, _] hD12 (rfl) (rfl), ldS [_, _] hD12 rfl, ldS [_] hD12 rfl⟩
        clear hK K
        (try simp only [Act.put, List.setIfInBounds_toArray, List.set_cons_zero, List.set_cons_succ])
        refine wpAnyH_take (i := 10) (oi := ⟨some 20, _, _, _, _, _⟩) (v := ?_) rfl (by kernel_rfl) (by kernel_rfl) (by kernel_rfl) (fun _ _ _ h => h) (Or.inl ⟨by rfl, ?_⟩) (by assumption) ?_
        rotate_left
        · intro w hSw; (try dsimp only at hSw); go_simp; try with_reducible rfl
        (try simp only [Act.put, List.setIfInBounds_toArray, List.set_cons_zero, List.set_cons_succ])
        refine wpAnyH_take (i := 11) (oi := ⟨some 21, _, _, _, _, _⟩) (v := ?_) rfl (by kernel_rfl) (by kernel_rfl) (by kernel_rfl) (fun _ _ _ h => h) (Or.inl ⟨by rfl, ?_⟩) (by assumption) ?_
        rotate_left
        · intro w hSw; (try dsimp only at hSw); go_simp; try with_reducible rfl
        (try simp only [Act.put, List.setIfInBounds_toArray, List.set_cons_zero, List.set_cons_succ])
        refine wpAnyH_ready (rs := [12]) (by kernel_rfl) (by simp) ?_
        refine (AllReadyH.cons (o := ⟨none, _, _, _, _, _⟩) rfl (fun K hK => ?_) AllReadyH.nil)
        rw [if_pos (by rfl)]
        refine ow_of_wl (ops := #[]) (by rfl) ?_
        refine wl_storeA [] hD12 rfl rfl rfl rfl (vs := tabC r.2 (.slice a9 xs9.length c9) (.slice a8 r.2.lives.length c8)) rfl rfl rfl ?_
        intro w7 hst3
        refine q0_nil ?_
        refine hK.out _ _ ?_ (fun hHeld => ?_)
        · exact ⟨ldA ((tabC t (.slice ar nr cr) (.slice al nl cl))) [_, _, _] hst3 (rfl) (rfl), ldS [_, _] hst3 rfl, ldS [_] hst3 rfl⟩
        clear hK K
        (try simp only [Act.put, List.setIfInBounds_toArray, List.set_cons_zero, List.set_cons_succ])
        refine wpAnyH_take (i := 13) (oi := ⟨some 9, _, _, _, _, _⟩) (v := ?_) rfl (by kernel_rfl) (by kernel_rfl) (by kernel_rfl) (fun _ _ _ h => h) (Or.inl ⟨by rfl, ?_⟩) (by assumption) ?_
        rotate_left
        · intro w hSw; (try dsimp only at hSw); go_simp; try with_reducible rfl
        (try simp only [Act.put, List.setIfInBounds_toArray, List.set_cons_zero, List.set_cons_succ])
        refine wpAnyH_done (by kernel_rfl) ?_ _
        clear hHeld
        go_wp2_with (first | go_big_skip | go_big_guard | fail)
        have hl := Loads.atA (P := Try.prog) (off := 0) (T := 27) (tabC r.2 (.slice a9 xs9.length c9) (.slice a8 r.2.lives.length c8)) [] hst3 rfl rfl
        refine bodyPost_ret (results_cellR rfl rfl rfl hl) rfl ?_
        exact ⟨_, _, xs9, rfl, HOK.out, St.sub hst3 (List.sublist_append_right [_, _, _, _] _)⟩
      · rw [if_pos (by rfl)]
        refine ow_of_wl (ops := #[]) (by rfl) ?_
        refine wl_mkFunc rfl rfl ?_
        refine q0_nil ?_
        refine hK.out _ _ ?_ (fun hHeld => ?_)
        · exact ⟨ldA ((tabC t (.slice ar nr cr) (.slice al nl cl))) [_, _, _] hC10 (rfl) (rfl), ldS [_, _] hC10 rfl, ldS [_] hC10 rfl⟩
        clear hK K
        (try simp only [Act.put, List.setIfInBounds_toArray, List.set_cons_zero, List.set_cons_succ])
        refine wpAnyH_ready (rs := [6]) (by kernel_rfl) (by simp) ?_
        refine (AllReadyH.cons (o := ⟨some 16, _, _, _, _, _⟩) rfl (fun K hK => ?_) AllReadyH.nil)
        rw [if_pos (by rfl)]
        go_simp
        go_at_call 44
        refine (limit13_any z _).mono ?_
        rintro _ w5 ⟨rfl, h4⟩
        have hC13 := St.call0 hC10 h4
        clear h4
        refine hK.out _ _ ?_ (fun hHeld => ?_)
        · exact ⟨ldA ((tabC t (.slice ar nr cr) (.slice al nl cl))) [_, _, _] hC13 (rfl) (rfl), ldS [_, _] hC13 rfl, ldS [_] hC13 rfl⟩
        clear hK K
        (try simp only [Act.put, List.setIfInBounds_toArray, List.set_cons_zero, List.set_cons_succ])
        refine wpAnyH_take (i := 7) (oi := ⟨some 17, _, _, _, _, _⟩) (v := ?_) rfl (by kernel_rfl) (by kernel_rfl) (by kernel_rfl) (fun _ _ _ h => h) (Or.inl ⟨by rfl, ?_⟩) (by assumption) ?_
        rotate_left
        · intro w hSw; (try dsimp only at hSw); go_simp; try with_reducible rfl
        (try simp only [Act.put, List.setIfInBounds_toArray, List.set_cons_zero, List.set_cons_succ])
        refine wpAnyH_ready (rs := [9]) (by kernel_rfl) (by simp) ?_
        refine (AllReadyH.cons (o := ⟨some 19, _, _, _, _, _⟩) rfl (fun K hK => ?_) AllReadyH.nil)
        rw [if_pos (by rfl)]
        go_simp
        go_at_call 42
        refine (change13_any t ar al nr cr nl cl xs _ (HT.out.old hC13.nil) nm (limB z) 45 #[.pointer (some ⟨g6, 0, none⟩), .pointer (some ⟨g7, 0, none⟩)] (fun v => { v with quota := q, reserve := z }) (fun _ _ => rfl) (fun w2 h => limitV q z (St.old_cell h (hC13.cell (g := g6) (off := 0) (.tail _ (.tail _ (.head _))) rfl) (by simp)) (St.old_cell h (hC13.cell (g := g7) (off := 0) (.tail _ (.head _)) rfl) (by simp))) hnm).mono ?_
        rw [← HR.out]
        rintro _ w9 ⟨rv9, lv9, xs9, rfl, hok9, h4⟩
        have h5 := St.call hC13 h4
        obtain ⟨a9, c9, rfl, _, _⟩ := rowS [] h5
        obtain ⟨a8, c8, rfl, _, _⟩ := rowS [_] h5
        have hD14 := St.perm h5 List.perm_append_comm
        have HOK := hid hok9
        clear hok9 h4 h5
        refine hK.out _ _ ?_ (fun hHeld => ?_)
        · exact ⟨ldA ((tabC t (.slice ar nr cr) (.slice al nl cl))) [_, _, _] hD14 (rfl) (rfl), ldS [_, _] hD14 rfl, ldS [_] hD14 rfl⟩
        clear hK K
        (try simp only [Act.put, List.setIfInBounds_toArray, List.set_cons_zero, List.set_cons_succ])
        refine wpAnyH_take (i := 10) (oi := ⟨some 20, _, _, _, _, _⟩) (v := ?_) rfl (by kernel_rfl) (by kernel_rfl) (by kernel_rfl) (fun _ _ _ h => h) (Or.inl ⟨by rfl, ?_⟩) (by assumption) ?_
        rotate_left
        · intro w hSw; (try dsimp only at hSw); go_simp; try with_reducible rfl
        (try simp only [Act.put, List.setIfInBounds_toArray, List.set_cons_zero, List.set_cons_succ])
        refine wpAnyH_take (i := 11) (oi := ⟨some 21, _, _, _, _, _⟩) (v := ?_) rfl (by kernel_rfl) (by kernel_rfl) (by kernel_rfl) (fun _ _ _ h => h) (Or.inl ⟨by rfl, ?_⟩) (by assumption) ?_
        rotate_left
        · intro w hSw; (try dsimp only at hSw); go_simp; try with_reducible rfl
        (try simp only [Act.put, List.setIfInBounds_toArray, List.set_cons_zero, List.set_cons_succ])
        refine wpAnyH_ready (rs := [12]) (by kernel_rfl) (by simp) ?_
        refine (AllReadyH.cons (o := ⟨none, _, _, _, _, _⟩) rfl (fun K hK => ?_) AllReadyH.nil)
        rw [if_pos (by rfl)]
        refine ow_of_wl (ops := #[]) (by rfl) ?_
        refine wl_storeA [] hD14 rfl rfl rfl rfl (vs := tabC r.2 (.slice a9 xs9.length c9) (.slice a8 r.2.lives.length c8)) rfl rfl rfl ?_
        intro w7 hst3
        refine q0_nil ?_
        refine hK.out _ _ ?_ (fun hHeld => ?_)
        · exact ⟨ldA ((tabC t (.slice ar nr cr) (.slice al nl cl))) [_, _, _] hst3 (rfl) (rfl), ldS [_, _] hst3 rfl, ldS [_] hst3 rfl⟩
        clear hK K
        (try simp only [Act.put, List.setIfInBounds_toArray, List.set_cons_zero, List.set_cons_succ])
        refine wpAnyH_take (i := 13) (oi := ⟨some 9, _, _, _, _, _⟩) (v := ?_) rfl (by kernel_rfl) (by kernel_rfl) (by kernel_rfl) (fun _ _ _ h => h) (Or.inl ⟨by rfl, ?_⟩) (by assumption) ?_
        rotate_left
        · intro w hSw; (try dsimp only at hSw); go_simp; try with_reducible rfl
        (try simp only [Act.put, List.setIfInBounds_toArray, List.set_cons_zero, List.set_cons_succ])
        refine wpAnyH_done (by kernel_rfl) ?_ _
        clear hHeld
        go_wp2_with (first | go_big_skip | go_big_guard | fail)
        have hl := Loads.atA (P := Try.prog) (off := 0) (T := 27) (tabC r.2 (.slice a9 xs9.length c9) (.slice a8 r.2.lives.length c8)) [] hst3 rfl rfl
        refine bodyPost_ret (results_cellR rfl rfl rfl hl) rfl ?_
        exact ⟨_, _, xs9, rfl, HOK.out, St.sub hst3 (List.sublist_append_right [_, _, _, _] _)⟩
    · rw [if_pos (by rfl)]
      refine ow_of_wl (ops := #[]) (by rfl) ?_
      refine wl_mkFunc rfl rfl ?_
      refine q0_nil ?_
      refine hK.out _ _ ?_ (fun hHeld => ?_)
      · exact ⟨ldA ((tabC t (.slice ar nr cr) (.slice al nl cl))) [_, _, _] hX (rfl) (rfl), ldS [_, _] hX rfl, ldS [_] hX rfl⟩
      clear hK K
      (try simp only [Act.put, List.setIfInBounds_toArray, List.set_cons_zero, List.set_cons_succ])
      refine wpAnyH_ready (rs := [3]) (by kernel_rfl) (by simp) ?_
      refine (AllReadyH.cons (o := ⟨some 13, _, _, _, _, _⟩) rfl (fun K hK => ?_) AllReadyH.nil)
      rw [if_pos (by rfl)]
      go_simp
      go_at_call 44
      refine (limit13_any q _).mono ?_
      rw [HL.out]
      rintro _ w5 ⟨rfl, h4⟩
      have hC15 := St.call0 hX h4
      clear h4
      refine hK.out _ _ ?_ (fun hHeld => ?_)
      · exact ⟨ldA ((tabC t (.slice ar nr cr) (.slice al nl cl))) [_, _, _] hC15 (rfl) (rfl), ldS [_, _] hC15 rfl, ldS [_] hC15 rfl⟩
      clear hK K
      (try simp only [Act.put, List.setIfInBounds_toArray, List.set_cons_zero, List.set_cons_succ])
      refine wpAnyH_take (i := 4) (oi := ⟨some 14, _, _, _, _, _⟩) (v := ?_) rfl (by kernel_rfl) (by kernel_rfl) (by kernel_rfl) (fun _ _ _ h => h) (Or.inl ⟨by rfl, ?_⟩) (by assumption) ?_
      rotate_left
      · intro w hSw; (try dsimp only at hSw); go_simp; try with_reducible rfl
      (try simp only [Act.put, List.setIfInBounds_toArray, List.set_cons_zero, List.set_cons_succ])
      refine wpAnyH_take (i := 5) (oi := ⟨some 15, _, _, _, _, _⟩) (v := ?_) rfl (by kernel_rfl) (by kernel_rfl) (by kernel_rfl) (fun _ _ _ h => h) (Or.inl ⟨by rfl, ?_⟩) (by assumption) ?_
      rotate_left
      · intro w hSw; (try dsimp only at hSw); go_simp; try with_reducible rfl
      (try simp only [Act.put, List.setIfInBounds_toArray, List.set_cons_zero, List.set_cons_succ])
      refine wpAnyH_ready (rs := [6]) (by kernel_rfl) (by simp) ?_
      refine (AllReadyH.cons (o := ⟨some 16, _, _, _, _, _⟩) rfl (fun K hK => ?_) AllReadyH.nil)
      rw [if_pos (by rfl)]
      go_simp
      go_at_call 44
      refine (limit13_any z _).mono ?_
      rintro _ w5 ⟨rfl, h4⟩
      have hC16 := St.call0 hC15 h4
      clear h4
      refine hK.out _ _ ?_ (fun hHeld => ?_)
      · exact ⟨ldA ((tabC t (.slice ar nr cr) (.slice al nl cl))) [_, _, _] hC16 (rfl) (rfl), ldS [_, _] hC16 rfl, ldS [_] hC16 rfl⟩
      clear hK K
      (try simp only [Act.put, List.setIfInBounds_toArray, List.set_cons_zero, List.set_cons_succ])
      refine wpAnyH_take (i := 7) (oi := ⟨some 17, _, _, _, _, _⟩) (v := ?_) rfl (by kernel_rfl) (by kernel_rfl) (by kernel_rfl) (fun _ _ _ h => h) (Or.inl ⟨by rfl, ?_⟩) (by assumption) ?_
      rotate_left
      · intro w hSw; (try dsimp only at hSw); go_simp; try with_reducible rfl
      (try simp only [Act.put, List.setIfInBounds_toArray, List.set_cons_zero, List.set_cons_succ])
      refine wpAnyH_ready (rs := [9]) (by kernel_rfl) (by simp) ?_
      refine (AllReadyH.cons (o := ⟨some 19, _, _, _, _, _⟩) rfl (fun K hK => ?_) AllReadyH.nil)
      rw [if_pos (by rfl)]
      go_simp
      go_at_call 42
      refine (change13_any t ar al nr cr nl cl xs _ (HT.out.old hC16.nil) nm (limB z) 45 #[.pointer (some ⟨g6, 0, none⟩), .pointer (some ⟨g7, 0, none⟩)] (fun v => { v with quota := q, reserve := z }) (fun _ _ => rfl) (fun w2 h => limitV q z (St.old_cell h (hC16.cell (g := g6) (off := 0) (.tail _ (.tail _ (.head _))) rfl) (by simp)) (St.old_cell h (hC16.cell (g := g7) (off := 0) (.tail _ (.head _)) rfl) (by simp))) hnm).mono ?_
      rw [← HR.out]
      rintro _ w9 ⟨rv9, lv9, xs9, rfl, hok9, h4⟩
      have h5 := St.call hC16 h4
      obtain ⟨a9, c9, rfl, _, _⟩ := rowS [] h5
      obtain ⟨a8, c8, rfl, _, _⟩ := rowS [_] h5
      have hD17 := St.perm h5 List.perm_append_comm
      have HOK := hid hok9
      clear hok9 h4 h5
      refine hK.out _ _ ?_ (fun hHeld => ?_)
      · exact ⟨ldA ((tabC t (.slice ar nr cr) (.slice al nl cl))) [_, _, _] hD17 (rfl) (rfl), ldS [_, _] hD17 rfl, ldS [_] hD17 rfl⟩
      clear hK K
      (try simp only [Act.put, List.setIfInBounds_toArray, List.set_cons_zero, List.set_cons_succ])
      refine wpAnyH_take (i := 10) (oi := ⟨some 20, _, _, _, _, _⟩) (v := ?_) rfl (by kernel_rfl) (by kernel_rfl) (by kernel_rfl) (fun _ _ _ h => h) (Or.inl ⟨by rfl, ?_⟩) (by assumption) ?_
      rotate_left
      · intro w hSw; (try dsimp only at hSw); go_simp; try with_reducible rfl
      (try simp only [Act.put, List.setIfInBounds_toArray, List.set_cons_zero, List.set_cons_succ])
      refine wpAnyH_take (i := 11) (oi := ⟨some 21, _, _, _, _, _⟩) (v := ?_) rfl (by kernel_rfl) (by kernel_rfl) (by kernel_rfl) (fun _ _ _ h => h) (Or.inl ⟨by rfl, ?_⟩) (by assumption) ?_
      rotate_left
      · intro w hSw; (try dsimp only at hSw); go_simp; try with_reducible rfl
      (try simp only [Act.put, List.setIfInBounds_toArray, List.set_cons_zero, List.set_cons_succ])
      refine wpAnyH_ready (rs := [12]) (by kernel_rfl) (by simp) ?_
      refine (AllReadyH.cons (o := ⟨none, _, _, _, _, _⟩) rfl (fun K hK => ?_) AllReadyH.nil)
      rw [if_pos (by rfl)]
      refine ow_of_wl (ops := #[]) (by rfl) ?_
      refine wl_storeA [] hD17 rfl rfl rfl rfl (vs := tabC r.2 (.slice a9 xs9.length c9) (.slice a8 r.2.lives.length c8)) rfl rfl rfl ?_
      intro w7 hst3
      refine q0_nil ?_
      refine hK.out _ _ ?_ (fun hHeld => ?_)
      · exact ⟨ldA ((tabC t (.slice ar nr cr) (.slice al nl cl))) [_, _, _] hst3 (rfl) (rfl), ldS [_, _] hst3 rfl, ldS [_] hst3 rfl⟩
      clear hK K
      (try simp only [Act.put, List.setIfInBounds_toArray, List.set_cons_zero, List.set_cons_succ])
      refine wpAnyH_take (i := 13) (oi := ⟨some 9, _, _, _, _, _⟩) (v := ?_) rfl (by kernel_rfl) (by kernel_rfl) (by kernel_rfl) (fun _ _ _ h => h) (Or.inl ⟨by rfl, ?_⟩) (by assumption) ?_
      rotate_left
      · intro w hSw; (try dsimp only at hSw); go_simp; try with_reducible rfl
      (try simp only [Act.put, List.setIfInBounds_toArray, List.set_cons_zero, List.set_cons_succ])
      refine wpAnyH_done (by kernel_rfl) ?_ _
      clear hHeld
      go_wp2_with (first | go_big_skip | go_big_guard | fail)
      have hl := Loads.atA (P := Try.prog) (off := 0) (T := 27) (tabC r.2 (.slice a9 xs9.length c9) (.slice a8 r.2.lives.length c8)) [] hst3 rfl rfl
      refine bodyPost_ret (results_cellR rfl rfl rfl hl) rfl ?_
      exact ⟨_, _, xs9, rfl, HOK.out, St.sub hst3 (List.sublist_append_right [_, _, _, _] _)⟩
theorem root13_any (t : TC) (ar al : Option Addr) (nr cr nl cl : Nat) (xs : List (Value × RC)) (w : World) (ht : TabIn w t ar nr cr al nl cl xs) (nm : List UInt8) (p : PV) (hp : p.In w) (hpl : p.l.length ≤ 100000) (hnm : nm.length ≤ 1000000) : Calls Try.prog 19 #[.agg (tabC t (.slice ar nr cr) (.slice al nl cl)).toArray, .string ⟨nm.toArray⟩, .agg p.cells.toArray] w (TabRet (opR t (rootT t nm p)) w) := by
  have HP := hid hp
  have H35 := hid (PV.len hp.1)
  clear hp
  have hst0 := St.refl w
  have HT := hid ht
  clear ht
  obtain ⟨r, hr⟩ : ∃ r, r = opR t (rootT t nm p) := ⟨_, rfl⟩
  rw [← hr]
  cases hh : p.hole <;> cases hk : p.ok
  · have H1 := hid hh
    have H2 := hid hk
    have HR := hid (show r = opR t (changeT t nm false (rootOf p)) by rw [hr]; unfold rootT rootB; rw [hh, hk]; rfl)
    clear hr hh hk
    go_enter Try.func19, Try.ntmps19
    go_wp2_with (first | go_big_skip | go_big_guard | (refine wl_boxA hst0 rfl rfl rfl ?_; intro g3 w1 hA0; clear hst0) | (refine wl_boxA hA0 rfl rfl rfl ?_; intro g5 _ hA1; clear hA0) | (refine wl_alloc hA1 rfl rfl ?_; intro g6 _ hst; clear hA1) | (refine wl_loadE rfl rfl rfl ?_; first | refine ⟨_, Loads.atA p.cells [_] hst H35.out (by simp), ?_⟩ | refine ⟨_, Loads.atA (tabC t (.slice ar nr cr) (.slice al nl cl)) [_, _] hst rfl rfl, ?_⟩ | refine ⟨_, Loads.at [_] hst rfl, ?_⟩) | (go_at_call 51; refine (hole_pv p _ (PV.In.old hst.nil HP.out)).mono ?_; rw [H1.out]; rintro _ w9 ⟨rfl, h4⟩; replace hst := St.call0 hst h4; clear h4) | (go_at_call 52; refine (check_pv p _ (PV.In.old hst.nil HP.out)).mono ?_; rw [H2.out]; rintro _ w9 ⟨rfl, h4⟩; replace hst := St.call0 hst h4; clear h4) | (go_at_call 42; refine (change13_any t ar al nr cr nl cl xs _ (HT.out.old hst.nil) nm (false) 53 #[.pointer (some ⟨g5, 0, none⟩)] (rootOf p) (fun _ _ => rfl) (fun w2 h => rootV p (fun j v hv => St.old_cell h (by have := hst.range (g := g5) (.tail _ (.head _)) j v (by rw [List.drop_zero]; exact hv); rwa [Nat.zero_add] at this ⊢) (by simp)) (PV.In.old h (PV.In.old hst.nil HP.out)) hpl) hnm).mono ?_; rw [← HR.out]; rintro _ w9 ⟨rv9, lv9, xs9, rfl, hok9, h4⟩; have h5 := St.call hst h4; obtain ⟨a9, c9, rfl, _, _⟩ := rowS [] h5; obtain ⟨a8, c8, rfl, _, _⟩ := rowS [_] h5; have hD2 := St.perm h5 List.perm_append_comm; have HOK := hid hok9; clear hok9 h4 h5 hst) | (refine wl_storeA [] hD2 rfl rfl rfl rfl (vs := tabC r.2 (.slice a9 xs9.length c9) (.slice a8 r.2.lives.length c8)) rfl rfl rfl ?_; intro w7 hst3; clear hD2))
    have hl := Loads.atA (P := Try.prog) (off := 0) (T := 27) (tabC r.2 (.slice a9 xs9.length c9) (.slice a8 r.2.lives.length c8)) [] hst3 rfl rfl
    refine bodyPost_ret (results_cellR rfl rfl rfl hl) rfl ?_
    exact ⟨_, _, xs9, rfl, HOK.out, St.sub hst3 (List.sublist_append_right [_, _, _] _)⟩
  · have H1 := hid hh
    have H2 := hid hk
    have HR := hid (show r = opR t (changeT t nm (p.v == 3) (rootOf p)) by rw [hr]; unfold rootT rootB; rw [hh, hk]; rfl)
    clear hr hh hk
    go_enter Try.func19, Try.ntmps19
    go_wp2_with (first | go_big_skip | go_big_guard | (refine wl_boxA hst0 rfl rfl rfl ?_; intro g3 w1 hA0; clear hst0) | (refine wl_boxA hA0 rfl rfl rfl ?_; intro g5 _ hA1; clear hA0) | (refine wl_alloc hA1 rfl rfl ?_; intro g6 _ hst; clear hA1) | (refine wl_loadE rfl rfl rfl ?_; first | refine ⟨_, Loads.atA p.cells [_] hst H35.out (by simp), ?_⟩ | refine ⟨_, Loads.atA (tabC t (.slice ar nr cr) (.slice al nl cl)) [_, _] hst rfl rfl, ?_⟩ | refine ⟨_, Loads.at [_] hst rfl, ?_⟩) | (go_at_call 51; refine (hole_pv p _ (PV.In.old hst.nil HP.out)).mono ?_; rw [H1.out]; rintro _ w9 ⟨rfl, h4⟩; replace hst := St.call0 hst h4; clear h4) | (go_at_call 52; refine (check_pv p _ (PV.In.old hst.nil HP.out)).mono ?_; rw [H2.out]; rintro _ w9 ⟨rfl, h4⟩; replace hst := St.call0 hst h4; clear h4) | (go_at_call 42; refine (change13_any t ar al nr cr nl cl xs _ (HT.out.old hst.nil) nm ((p.v == 3)) 53 #[.pointer (some ⟨g5, 0, none⟩)] (rootOf p) (fun _ _ => rfl) (fun w2 h => rootV p (fun j v hv => St.old_cell h (by have := hst.range (g := g5) (.tail _ (.head _)) j v (by rw [List.drop_zero]; exact hv); rwa [Nat.zero_add] at this ⊢) (by simp)) (PV.In.old h (PV.In.old hst.nil HP.out)) hpl) hnm).mono ?_; rw [← HR.out]; rintro _ w9 ⟨rv9, lv9, xs9, rfl, hok9, h4⟩; have h5 := St.call hst h4; obtain ⟨a9, c9, rfl, _, _⟩ := rowS [] h5; obtain ⟨a8, c8, rfl, _, _⟩ := rowS [_] h5; have hD2 := St.perm h5 List.perm_append_comm; have HOK := hid hok9; clear hok9 h4 h5 hst) | (refine wl_storeA [] hD2 rfl rfl rfl rfl (vs := tabC r.2 (.slice a9 xs9.length c9) (.slice a8 r.2.lives.length c8)) rfl rfl rfl ?_; intro w7 hst3; clear hD2))
    have hl := Loads.atA (P := Try.prog) (off := 0) (T := 27) (tabC r.2 (.slice a9 xs9.length c9) (.slice a8 r.2.lives.length c8)) [] hst3 rfl rfl
    refine bodyPost_ret (results_cellR rfl rfl rfl hl) rfl ?_
    exact ⟨_, _, xs9, rfl, HOK.out, St.sub hst3 (List.sublist_append_right [_, _, _] _)⟩
  · have H1 := hid hh
    have H2 := hid hk
    have HR := hid (show r = opR t (changeT t nm true (rootOf p)) by rw [hr]; unfold rootT rootB; rw [hh, hk]; rfl)
    clear hr hh hk
    go_enter Try.func19, Try.ntmps19
    go_wp2_with (first | go_big_skip | go_big_guard | (refine wl_boxA hst0 rfl rfl rfl ?_; intro g3 w1 hA0; clear hst0) | (refine wl_boxA hA0 rfl rfl rfl ?_; intro g5 _ hA1; clear hA0) | (refine wl_alloc hA1 rfl rfl ?_; intro g6 _ hst; clear hA1) | (refine wl_loadE rfl rfl rfl ?_; first | refine ⟨_, Loads.atA p.cells [_] hst H35.out (by simp), ?_⟩ | refine ⟨_, Loads.atA (tabC t (.slice ar nr cr) (.slice al nl cl)) [_, _] hst rfl rfl, ?_⟩ | refine ⟨_, Loads.at [_] hst rfl, ?_⟩) | (go_at_call 51; refine (hole_pv p _ (PV.In.old hst.nil HP.out)).mono ?_; rw [H1.out]; rintro _ w9 ⟨rfl, h4⟩; replace hst := St.call0 hst h4; clear h4) | (go_at_call 52; refine (check_pv p _ (PV.In.old hst.nil HP.out)).mono ?_; rw [H2.out]; rintro _ w9 ⟨rfl, h4⟩; replace hst := St.call0 hst h4; clear h4) | (go_at_call 42; refine (change13_any t ar al nr cr nl cl xs _ (HT.out.old hst.nil) nm (true) 53 #[.pointer (some ⟨g5, 0, none⟩)] (rootOf p) (fun _ _ => rfl) (fun w2 h => rootV p (fun j v hv => St.old_cell h (by have := hst.range (g := g5) (.tail _ (.head _)) j v (by rw [List.drop_zero]; exact hv); rwa [Nat.zero_add] at this ⊢) (by simp)) (PV.In.old h (PV.In.old hst.nil HP.out)) hpl) hnm).mono ?_; rw [← HR.out]; rintro _ w9 ⟨rv9, lv9, xs9, rfl, hok9, h4⟩; have h5 := St.call hst h4; obtain ⟨a9, c9, rfl, _, _⟩ := rowS [] h5; obtain ⟨a8, c8, rfl, _, _⟩ := rowS [_] h5; have hD2 := St.perm h5 List.perm_append_comm; have HOK := hid hok9; clear hok9 h4 h5 hst) | (refine wl_storeA [] hD2 rfl rfl rfl rfl (vs := tabC r.2 (.slice a9 xs9.length c9) (.slice a8 r.2.lives.length c8)) rfl rfl rfl ?_; intro w7 hst3; clear hD2))
    have hl := Loads.atA (P := Try.prog) (off := 0) (T := 27) (tabC r.2 (.slice a9 xs9.length c9) (.slice a8 r.2.lives.length c8)) [] hst3 rfl rfl
    refine bodyPost_ret (results_cellR rfl rfl rfl hl) rfl ?_
    exact ⟨_, _, xs9, rfl, HOK.out, St.sub hst3 (List.sublist_append_right [_, _, _] _)⟩
  · have H1 := hid hh
    have H2 := hid hk
    have HR := hid (show r = opR t (changeT t nm true (rootOf p)) by rw [hr]; unfold rootT rootB; rw [hh, hk]; rfl)
    clear hr hh hk
    go_enter Try.func19, Try.ntmps19
    go_wp2_with (first | go_big_skip | go_big_guard | (refine wl_boxA hst0 rfl rfl rfl ?_; intro g3 w1 hA0; clear hst0) | (refine wl_boxA hA0 rfl rfl rfl ?_; intro g5 _ hA1; clear hA0) | (refine wl_alloc hA1 rfl rfl ?_; intro g6 _ hst; clear hA1) | (refine wl_loadE rfl rfl rfl ?_; first | refine ⟨_, Loads.atA p.cells [_] hst H35.out (by simp), ?_⟩ | refine ⟨_, Loads.atA (tabC t (.slice ar nr cr) (.slice al nl cl)) [_, _] hst rfl rfl, ?_⟩ | refine ⟨_, Loads.at [_] hst rfl, ?_⟩) | (go_at_call 51; refine (hole_pv p _ (PV.In.old hst.nil HP.out)).mono ?_; rw [H1.out]; rintro _ w9 ⟨rfl, h4⟩; replace hst := St.call0 hst h4; clear h4) | (go_at_call 52; refine (check_pv p _ (PV.In.old hst.nil HP.out)).mono ?_; rw [H2.out]; rintro _ w9 ⟨rfl, h4⟩; replace hst := St.call0 hst h4; clear h4) | (go_at_call 42; refine (change13_any t ar al nr cr nl cl xs _ (HT.out.old hst.nil) nm (true) 53 #[.pointer (some ⟨g5, 0, none⟩)] (rootOf p) (fun _ _ => rfl) (fun w2 h => rootV p (fun j v hv => St.old_cell h (by have := hst.range (g := g5) (.tail _ (.head _)) j v (by rw [List.drop_zero]; exact hv); rwa [Nat.zero_add] at this ⊢) (by simp)) (PV.In.old h (PV.In.old hst.nil HP.out)) hpl) hnm).mono ?_; rw [← HR.out]; rintro _ w9 ⟨rv9, lv9, xs9, rfl, hok9, h4⟩; have h5 := St.call hst h4; obtain ⟨a9, c9, rfl, _, _⟩ := rowS [] h5; obtain ⟨a8, c8, rfl, _, _⟩ := rowS [_] h5; have hD2 := St.perm h5 List.perm_append_comm; have HOK := hid hok9; clear hok9 h4 h5 hst) | (refine wl_storeA [] hD2 rfl rfl rfl rfl (vs := tabC r.2 (.slice a9 xs9.length c9) (.slice a8 r.2.lives.length c8)) rfl rfl rfl ?_; intro w7 hst3; clear hD2))
    have hl := Loads.atA (P := Try.prog) (off := 0) (T := 27) (tabC r.2 (.slice a9 xs9.length c9) (.slice a8 r.2.lives.length c8)) [] hst3 rfl rfl
    refine bodyPost_ret (results_cellR rfl rfl rfl hl) rfl ?_
    exact ⟨_, _, xs9, rfl, HOK.out, St.sub hst3 (List.sublist_append_right [_, _, _] _)⟩
theorem new13_any (devs : Int) (w : World) : Calls Try.prog 6 #[.int .i64 devs] w (TabRet (newR devs) w) := by
  have hst0 := St.refl w
  obtain ⟨r, hr⟩ : ∃ r, r = newR devs := ⟨_, rfl⟩
  rw [← hr]
  by_cases h1 : devs < 2
  · have d1 : decide (devs < 2) = true := decide_eq_true h1
    have HB := hid (show r = badR 2 by rw [hr]; unfold newR inB; rw [decide_eq_false (by omega : ¬ (2 ≤ devs))]; rfl)
    clear h1 hr
    go_enter Try.func6, Try.ntmps6
    go_wp2_with (first | go_big_skip | go_big_guard | (refine wl_alloc hst0 rfl rfl ?_; intro g2 w1 hst; clear hst0) | (refine wl_build0 rfl rfl ?_) | (refine wl_storeA [] hst rfl rfl rfl rfl rfl rfl rfl ?_; intro w7 hst2; clear hst))
    have hl := Loads.atA (P := Try.prog) (off := 0) (T := 27) tab0 [] hst2 rfl rfl
    refine bodyPost_ret (results_cellR rfl rfl rfl hl) rfl ?_
    rw [HB.out]
    exact tabRet_bad hst2 2
  · have d1 : decide (devs < 2) = false := decide_eq_false h1
    by_cases h2 : devs > 8
    · have d2 : decide (devs > 8) = true := decide_eq_true h2
      have d3 : decide (8 < devs) = true := d2
      have HB := hid (show r = badR 2 by rw [hr]; unfold newR inB; rw [decide_eq_false (by omega : ¬ (devs ≤ 8)), Bool.and_false]; rfl)
      clear h1 h2 hr
      go_enter Try.func6, Try.ntmps6
      go_wp2_with (first | go_big_skip | go_big_guard | (refine wl_alloc hst0 rfl rfl ?_; intro g2 w1 hst; clear hst0) | (refine wl_build0 rfl rfl ?_) | (refine wl_storeA [] hst rfl rfl rfl rfl rfl rfl rfl ?_; intro w7 hst2; clear hst))
      have hl := Loads.atA (P := Try.prog) (off := 0) (T := 27) tab0 [] hst2 rfl rfl
      refine bodyPost_ret (results_cellR rfl rfl rfl hl) rfl ?_
      rw [HB.out]
      exact tabRet_bad hst2 2
    · have d2 : decide (devs > 8) = false := decide_eq_false h2
      have d3 : decide (8 < devs) = false := d2
      obtain ⟨n, rfl⟩ : ∃ n : Nat, devs = (n : Int) := ⟨devs.toNat, by omega⟩
      have HB := hid (show r = (0, ⟨1, [], 0, 0, 0, 0, List.replicate n 0⟩) by rw [hr]; unfold newR inB; rw [decide_eq_true (by omega : (2 : Int) ≤ (n : Int)), decide_eq_true (by omega : (n : Int) ≤ 8)]; rfl)
      have hn8 : n ≤ 8 := by omega
      clear h1 h2 hr
      go_enter Try.func6, Try.ntmps6
      go_wp2_with (first | go_big_skip | go_big_guard | (refine wl_alloc hst0 rfl rfl ?_; intro g2 w1 hst; clear hst0) | (apply wl_make n n hst; rfl; rfl; exact rfl; exact rfl; infer_instance; infer_instance; infer_instance; rfl; rfl; exact Nat.le_refl _; exact ⟨by omega, by omega⟩; intro g3 w2 hst2; clear hst) | (refine wl_buildX (cs := [.int .i64 1, .slice none 0 0, .int .i64 0, .int .i64 0, .int .i64 0, .int .i64 0, .slice (some ⟨g3, 0, none⟩) n n]) [(0, .int .i64 1), (3, .slice (some ⟨g3, 0, none⟩) n n)] rfl rfl (by exact rfl) (bldNew _ _ _) ?_) | (refine wl_storeA [_] hst2 rfl rfl rfl rfl rfl rfl rfl ?_; intro w7 hst3; clear hst2))
      have hl := Loads.atA (P := Try.prog) (off := 0) (T := 27) [.int .i64 1, .slice none 0 0, .int .i64 0, .int .i64 0, .int .i64 0, .int .i64 0, .slice (some ⟨g3, 0, none⟩) n n] [_] hst3 rfl rfl
      refine bodyPost_ret (results_cellR rfl rfl rfl hl) rfl ?_
      rw [HB.out]
      refine ⟨.slice none 0 0, .slice (some ⟨g3, 0, none⟩) n n, [], rfl, ⟨rfl, fun _ h => by cases h⟩, ?_⟩
      have h5 := St.toRow (n := n) (cap := n) (sz := 1) hst3 (by rw [List.length_replicate, Nat.mul_one]) (Nat.le_refl _) (by omega)
      rw [Nat.mul_one, List.take_of_length_le (by rw [List.length_replicate]; exact Nat.le_refl _)] at h5
      have e1 : numsV (List.replicate n 0) = List.replicate n (.int .i64 0) := by unfold numsV; rw [List.map_replicate]
      have h6 := St.nilR 51 44 (St.sub h5 (.cons_cons _ (List.nil_sublist _)))
      show St w [] _ [.row _ _ 44 0 _, .row _ _ 1 (List.replicate n (0 : Int)).length (numsV (List.replicate n 0))]
      rw [List.length_replicate, e1]
      exact h6
end Go.Proofs.Ytifajcblbedcoaa
namespace Go.Proofs.Ytifajcblbedcoaa
set_option linter.unusedVariables false
set_option linter.unusedSimpArgs false
open Go.RowKit Hp
def NameLt (x y : RC) : Prop := lessL x.name y.name = true
theorem sorted_iff {l : List RC} : Sorted l ↔ l.Pairwise NameLt := by
  rw [List.pairwise_iff_getElem]
  constructor
  · intro h i j hi hj hij
    exact h i j _ _ hij (List.getElem?_eq_getElem hi) (List.getElem?_eq_getElem hj)
  · intro h i j x y hij hx hy
    obtain ⟨hi, hx⟩ := List.getElem?_eq_some_iff.1 hx
    obtain ⟨hj, hy⟩ := List.getElem?_eq_some_iff.1 hy
    subst hx hy
    exact h i j hi hj hij
theorem NameLt.trans {x y z : RC} (h : NameLt x y) (h' : NameLt y z) : NameLt x z := less_trans h h'
theorem NameLt.ne {x y : RC} (h : NameLt x y) : x.name ≠ y.name := by
  intro e
  unfold NameLt at h
  rw [e, less_self] at h
  cases h
theorem name_other {x y : RC} (h : lessL y.name x.name = false) (hn : y.name ≠ x.name) : NameLt x y := by
  rcases less_tri y.name x.name with ⟨h1, _, _⟩ | ⟨_, h2, _⟩ | ⟨h3, _, _⟩
  · rw [h1] at h; cases h
  · exact h2
  · exact absurd h3 hn
theorem layL_perm (x : RC) (l : List RC) : (layL x l).Perm (x :: l) := by
  unfold layL
  have := List.perm_middle (a := x) (l₁ := l.takeWhile fun y => lessL y.name x.name) (l₂ := l.dropWhile fun y => lessL y.name x.name)
  rwa [List.takeWhile_append_dropWhile] at this
theorem dropWhile_all {x : RC} : ∀ {l : List RC}, l.Pairwise NameLt → ∀ y ∈ l.dropWhile (fun y => lessL y.name x.name), lessL y.name x.name = false
  | [], _, y, hy => by simp at hy
  | z :: l, h, y, hy => by
    rw [List.pairwise_cons] at h
    rw [List.dropWhile_cons] at hy
    split at hy
    · exact dropWhile_all h.2 y hy
    · rename_i hz
      have hz' : lessL z.name x.name = false := by simpa using hz
      rcases List.mem_cons.1 hy with rfl | hy
      · exact hz'
      · cases hq : lessL y.name x.name with
        | false => rfl
        | true =>
          have := less_trans (h.1 y hy) hq
          rw [hz'] at this
          cases this
theorem layL_sorted {x : RC} {l : List RC} (h : l.Pairwise NameLt) (hx : ∀ y ∈ l, y.name ≠ x.name) : (layL x l).Pairwise NameLt := by
  unfold layL
  have hs := h
  rw [← List.takeWhile_append_dropWhile (p := fun y : RC => lessL y.name x.name) (l := l), List.pairwise_append] at hs
  obtain ⟨h1, h2, h3⟩ := hs
  have hA : ∀ y ∈ l.takeWhile (fun y : RC => lessL y.name x.name), NameLt y x := fun y hy => List.all_eq_true.1 (List.all_takeWhile (p := fun y : RC => lessL y.name x.name) (l := l)) y hy
  have hB : ∀ y ∈ l.dropWhile (fun y : RC => lessL y.name x.name), NameLt x y := fun y hy => name_other (dropWhile_all h y hy) (hx y ((List.dropWhile_sublist _).subset hy))
  rw [List.pairwise_append, List.pairwise_cons]
  refine ⟨h1, ⟨hB, h2⟩, fun a ha b hb => ?_⟩
  rcases List.mem_cons.1 hb with rfl | hb
  · exact hA a ha
  · exact h3 a ha b hb
theorem sortL_snoc (l : List RC) (x : RC) : sortL (l ++ [x]) = layL x (sortL l) := by
  unfold sortL
  rw [List.foldl_append]
  rfl
theorem snoc_ind {p : List RC → Prop} (h0 : p []) (h1 : ∀ l x, p l → p (l ++ [x])) (l : List RC) : p l := by
  have : ∀ k : List RC, p k.reverse := by
    intro k
    induction k with
    | nil => exact h0
    | cons x k ih => rw [List.reverse_cons]; exact h1 _ _ ih
  have h := this l.reverse
  rwa [List.reverse_reverse] at h
theorem sortL_perm (l : List RC) : (sortL l).Perm l := by
  refine snoc_ind (p := fun l => (sortL l).Perm l) (List.Perm.refl _) (fun l x ih => ?_) l
  rw [sortL_snoc]
  exact (layL_perm x _).trans ((List.Perm.cons x ih).trans (List.perm_append_singleton x l).symm)
def Distinct (l : List RC) : Prop := l.Pairwise fun x y => x.name ≠ y.name
theorem sortL_sorted {l : List RC} (h : Distinct l) : (sortL l).Pairwise NameLt := by
  revert h
  refine snoc_ind (p := fun l => Distinct l → (sortL l).Pairwise NameLt) (fun _ => List.Pairwise.nil) (fun l x ih h => ?_) l
  unfold Distinct at h
  rw [List.pairwise_append] at h
  rw [sortL_snoc]
  exact layL_sorted (ih h.1) fun y hy => h.2.2 y ((sortL_perm l).subset hy) x (by simp)
theorem layL_last {x : RC} {l : List RC} (h : ∀ y ∈ l, NameLt y x) : layL x l = l ++ [x] := by
  have e : nLess x l = l.length := nLess_of (Nat.le_refl _) (fun i y _ hy => h y (List.mem_of_getElem? hy)) (fun y hy => by
    have := (List.getElem?_eq_some_iff.1 hy).1
    omega)
  rw [layL_at, e, List.take_length, List.drop_length]
/-- A list that is in order stays. -/
theorem sortL_id {l : List RC} (h : l.Pairwise NameLt) : sortL l = l := by
  revert h
  refine snoc_ind (p := fun l => l.Pairwise NameLt → sortL l = l) (fun _ => rfl) (fun l x ih h => ?_) l
  rw [List.pairwise_append] at h
  rw [sortL_snoc, ih h.1, layL_last fun y hy => h.2.2 y hy x (by simp)]
theorem ok_lt {t : TC} (h : t.ok = true) : t.recs.Pairwise NameLt := sorted_iff.1 (ok_sorted h)
theorem ok_distinct {t : TC} (h : t.ok = true) : Distinct t.recs := (ok_lt h).imp NameLt.ne
/-! ### Names changed -/
theorem isAt_no {nm : List UInt8} {l : List RC} (h : isAt nm l = false) : ∀ x ∈ l, x.name ≠ nm := fun x hx e => by
  unfold isAt recAt at h
  have h2 : l.find? (fun x => x.name == nm) = none := by
    cases hf : l.find? (fun x => x.name == nm) with
    | none => rfl
    | some y => rw [hf] at h; cases h
  rw [List.find?_eq_none] at h2
  have := h2 x hx
  simp [e] at this
theorem isAt_yes {nm : List UInt8} {l : List RC} {x : RC} (hx : x ∈ l) (h : x.name = nm) : isAt nm l = true := by
  cases hq : isAt nm l with
  | true => rfl
  | false => exact absurd h (isAt_no hq x hx)
/-- A record that may be: a snapshot's name is a snapshot's. -/
theorem alone_kind {r : RC} (h : r.aloneB = true) : (r.kind = 1 ∧ partB r.name = true) ∨ (r.kind = 2 ∧ snapB r.name = true) := by
  unfold RC.aloneB at h
  have h4 : r.kindB = true := (Bool.and_eq_true_iff.1 h).2
  unfold RC.kindB at h4
  by_cases k1 : (r.kind == 1) = true
  · rw [if_pos k1] at h4
    simp only [Bool.and_eq_true] at h4
    exact .inl ⟨by simpa using k1, h4.1.1.1.1⟩
  · rw [if_neg k1] at h4
    by_cases k2 : (r.kind == 2) = true
    · rw [if_pos k2] at h4
      simp only [Bool.and_eq_true] at h4
      exact .inr ⟨by simpa using k2, h4.1.1.1.1.1⟩
    · rw [if_neg k2] at h4; cases h4
theorem snap_form {s : List UInt8} (h : snapB s = true) : ∃ a b, splitL s = (a, b, true) ∧ s = a ++ 64 :: b ∧ partB a = true ∧ partB b = true := by
  unfold snapB at h
  obtain ⟨⟨a, b, f⟩, hs⟩ : ∃ p, splitL s = p := ⟨_, rfl⟩
  rw [hs] at h
  have hf : f = true := h
  subst hf
  exact ⟨a, b, hs, split_true hs⟩
theorem part_split {s : List UInt8} (h : partB s = true) : splitL s = ([], [], false) := by
  have hc : cutL s = (s, [], false) := cutL_none (part_no h)
  unfold splitL
  rw [hc]
  rfl
theorem ok_alone {t : TC} (h : t.ok = true) {x : RC} (hx : x ∈ t.recs) : x.aloneB = true := by
  obtain ⟨i, hi⟩ := List.getElem?_of_mem hx
  unfold TC.ok at h
  simp only [Bool.and_eq_true] at h
  have a1 := allAt_at h.1.2 hi
  unfold eachB at a1
  exact (Bool.and_eq_true_iff.1 a1).1
theorem ok_rel_at {t : TC} (h : t.ok = true) {x : RC} {i : Nat} (hi : t.recs[i]? = some x) : relB t.next t.recs i x = true := by
  unfold TC.ok at h
  simp only [Bool.and_eq_true] at h
  exact allAt_at h.2 hi
/-- A snapshot of a volume: that one is there. -/
theorem snap_has {t : TC} (h : t.ok = true) {x : RC} (hx : x ∈ t.recs) {a b : List UInt8} (hn : x.name = a ++ 64 :: b) (ha : partB a = true) (hb : partB b = true) : isAt a t.recs = true := by
  have hsp := split_joined ha hb
  have hk : snapB x.name = true := by unfold snapB; rw [hn, hsp]
  have hra : recAt x.name t.recs = some x ∨ ∃ y, recAt x.name t.recs = some y := by
    have := isAt_yes hx rfl
    unfold isAt at this
    cases hq : recAt x.name t.recs with
    | none => rw [hq] at this; cases this
    | some y => exact .inr ⟨y, rfl⟩
  obtain ⟨y, hy⟩ : ∃ y, recAt x.name t.recs = some y := by
    rcases hra with h | h
    · exact ⟨x, h⟩
    · exact h
  obtain ⟨k, v, hv, hr, _⟩ := snap_vol h hk hy
  rw [hn, hsp] at hr
  unfold isAt
  rw [hr]
  rfl
theorem join_len (a b : List UInt8) : (joinL a b).1.length ≤ 41 := by
  unfold joinL
  split
  · rename_i h
    obtain ⟨h1, h2⟩ := Bool.and_eq_true_iff.1 h
    have := (part_bd h1).2
    have := (part_bd h2).2
    simp
    omega
  · simp
/-- How a name is changed. -/
theorem ren_ways {t : TC} (h : t.ok = true) {nm tn : List UInt8} (ha : alikeB nm tn = true) {x : RC} (hx : x ∈ t.recs) :
    (x.name = nm ∧ renR nm tn x = { x with name := tn }) ∨ (x.name ≠ nm ∧ ∃ p, partB nm = true ∧ partB tn = true ∧ partB p = true ∧ x.name = nm ++ 64 :: p ∧ renR nm tn x = { x with name := tn ++ 64 :: p }) ∨ (x.name ≠ nm ∧ renR nm tn x = x ∧ ¬ ((splitL x.name).2.2 = true ∧ (splitL x.name).1 = nm)) := by
  by_cases h1 : x.name = nm
  · left
    refine ⟨h1, ?_⟩
    unfold renR
    rw [if_pos (by simpa using h1)]
  right
  have h1' : ¬ ((x.name == nm) = true) := by simpa using h1
  by_cases h2 : (splitL x.name).2.2 = true ∧ (splitL x.name).1 = nm
  · left
    refine ⟨h1, ?_⟩
    obtain ⟨a, b, hs, he, hpa, hpb⟩ := snap_form (s := x.name) h2.1
    rw [hs] at h2
    obtain rfl : a = nm := h2.2
    have hto : partB tn = true := by
      unfold alikeB at ha
      rcases Bool.or_eq_true_iff.1 ha with h3 | h3
      · exact (Bool.and_eq_true_iff.1 h3).2
      · rw [part_split hpa] at h3
        simp at h3
    refine ⟨b, hpa, hto, hpb, he, ?_⟩
    unfold renR
    rw [if_neg h1', hs, if_pos (by simp), join_of hto hpb]
  · right
    refine ⟨h1, ?_, h2⟩
    unfold renR
    rw [if_neg h1', if_neg (by simpa using h2)]
theorem at_no {a b p : List UInt8} (h : partB a = true) : a ≠ b ++ 64 :: p := by
  intro e
  have := part_no h
  rw [e] at this
  simp at this
theorem ren_distinct {t : TC} (h : t.ok = true) {nm tn : List UInt8} (ha : alikeB nm tn = true) (hto : isAt tn t.recs = false) : Distinct (t.recs.map (renR nm tn)) := by
  unfold Distinct
  rw [List.pairwise_map]
  have hd := ok_distinct h
  refine List.Pairwise.imp_of_mem (fun {x y} hx hy hxy => ?_) hd
  have nt := isAt_no hto
  have key : ∀ u ∈ t.recs, ∀ p, partB tn = true → partB p = true → u.name ≠ tn ++ 64 :: p := fun u hu p h1 h2 e => by
    have := snap_has h hu e h1 h2
    rw [hto] at this
    cases this
  rcases ren_ways h ha hx with ⟨e1, r1⟩ | ⟨e1, p, a1, a2, a3, a4, r1⟩ | ⟨e1, r1, _⟩ <;> rcases ren_ways h ha hy with ⟨e2, r2⟩ | ⟨e2, q, b1, b2, b3, b4, r2⟩ | ⟨e2, r2, _⟩ <;> rw [r1, r2]
  · exact absurd (e1.trans e2.symm) hxy
  · exact at_no b2
  · exact fun e => nt y hy e.symm
  · exact fun e => at_no a2 e.symm
  · intro e
    have e' : tn ++ 64 :: p = tn ++ 64 :: q := e
    have : p = q := by simpa using e'
    subst this
    exact hxy (a4.trans b4.symm)
  · exact fun e => key y hy p a2 a3 e.symm
  · exact fun e => nt x hx e
  · exact fun e => key x hx q b2 b3 e
  · exact hxy
end Go.Proofs.Ytifajcblbedcoaa
namespace Go.Proofs.Ytifajcblbedcoaa
set_option linter.unusedVariables false
set_option linter.unusedSimpArgs false
open Go.RowKit Hp
attribute [local irreducible] Go.Calls Go.wpList
set_option maxRecDepth 100000
set_option maxHeartbeats 8000000
attribute [local go_sem ↓] heldInt heldInts heldRecs heldRec heldStr heldTab heldPtr heldFn
theorem put_name (v : Value × RC) (z : List UInt8) : putAt (cellsR v) 1 [.string ⟨z.toArray⟩] = cellsR (v.1, { v.2 with name := z }) := rfl
def nameX (x : Value × RC) (z : List UInt8) : Value × RC := (x.1, { x.2 with name := z })
def renX (nm tn : List UInt8) (x : Value × RC) : Value × RC := (x.1, renR nm tn x.2)
theorem renR_root (nm tn : List UInt8) (x : RC) : (renR nm tn x).S = x.S ∧ (renR nm tn x).l = x.l := by
  unfold renR
  split
  · exact ⟨rfl, rfl⟩
  · split <;> exact ⟨rfl, rfl⟩
theorem renX_root (nm tn : List UInt8) (x : Value × RC) : rootH (renX nm tn x) = rootH x := by
  unfold rootH renX
  rw [(renR_root nm tn x.2).2]
theorem renR_len {nm tn : List UInt8} (h : tn.length ≤ 1000000) {x : RC} (hx : x.name.length ≤ 1000000) : (renR nm tn x).name.length ≤ 1000000 := by
  unfold renR
  split
  · exact h
  · split
    · have := join_len tn (splitL x.name).2.1
      show (joinL tn (splitL x.name).2.1).1.length ≤ 1000000
      omega
    · exact hx
theorem rowLoad {w0 w : World} {M : List Nat} {L : List HA} {g2 n c j : Nat} {xs : List (Value × RC)} {x : Value × RC} (hst : St w0 M w L) (hm : HA.row (.slice (some ⟨g2, 0, none⟩) n c) 51 44 n (recsV xs) ∈ L) (hn : xs.length = n) (hl : LX xs) (hx : xs[j]? = some x) : Loads Try.prog w 51 ⟨g2, 0 + j * 44, none⟩ (.agg (cellsR x).toArray) := by
  have hr := (Rd.row hst hm).range
  have h2 := range_flat (f := cellsR) (sz := 44) (fun d hd => cellsR_len (hl d hd)) hx hr
  exact Loads.range (by rw [cellsR_len (hl x (List.mem_of_getElem? hx))]; exact (inferInstance : TyA Try.prog 51 44).out) h2
/-- Where the loop stands: so many records are laid anew. -/
structure RenS (w w1 : World) (g : Nat) (t : TC) (rv lv : Value) (g2 c : Nat) (xs ys : List (Value × RC)) (j : Nat) (nm tn : List UInt8) (R : List HA) : Prop where
  st : St w [] w1 (.blk g 27 (tabC t rv lv) :: .row rv 51 44 j (recsV ys) :: .row (.slice (some ⟨g2, 0, none⟩) xs.length c) 51 44 xs.length (recsV xs) :: .row lv 3 1 t.lives.length (numsV t.lives) :: (xs.map rootH ++ R))
  len : ys.length = j
  eq : ys.map (·.2) = sortL ((t.recs.take j).map (renR nm tn))
  roots : (ys.map rootH).Perm ((xs.take j).map rootH)
  ok : ∀ y ∈ ys, L32 y.2.S ∧ y.2.name.length ≤ 1000000
theorem RenS.own {w w1 : World} {g : Nat} {t : TC} {rv lv : Value} {g2 c : Nat} {xs ys : List (Value × RC)} {j : Nat} {nm tn : List UInt8} {R : List HA} (h : RenS w w1 g t rv lv g2 c xs ys j nm tn R) (a b : HA) : OwnX (a :: b :: (xs.map rootH ++ R)) ys := fun y hy => by
  refine ⟨.tail _ (.tail _ (List.mem_append_left _ ?_)), h.ok y hy⟩
  have h1 : rootH y ∈ ys.map rootH := List.mem_map_of_mem hy
  have h2 := h.roots.subset h1
  rw [List.map_take] at h2
  exact List.mem_of_mem_take h2
theorem RenS.sorted {w w1 : World} {g : Nat} {t : TC} {rv lv : Value} {g2 c : Nat} {xs ys : List (Value × RC)} {j : Nat} {nm tn : List UInt8} {R : List HA} (h : RenS w w1 g t rv lv g2 c xs ys j nm tn R) (hk : t.ok = true) (ha : alikeB nm tn = true) (ht : isAt tn t.recs = false) : Sorted (ys.map (·.2)) := by
  rw [h.eq, sorted_iff]
  refine sortL_sorted ?_
  have := ren_distinct hk ha ht
  unfold Distinct at this ⊢
  rw [List.map_take]
  exact this.sublist (List.take_sublist _ _)
theorem RenS.next {w w1 : World} {g : Nat} {t : TC} {rv lv : Value} {g2 c : Nat} {xs ys : List (Value × RC)} {j : Nat} {nm tn : List UInt8} {R : List HA} {x : Value × RC} (h : RenS w w1 g t rv lv g2 c xs ys j nm tn R) (hok : Okx xs t) (hx : xs[j]? = some x) (htn : tn.length ≤ 1000000) {w2 : World} {rv' : Value}
    (hst : St w [] w2 (.blk g 27 (tabC t rv' lv) :: .row rv' 51 44 (j + 1) (recsV (ys.take (nLess (renX nm tn x).2 (ys.map (·.2))) ++ renX nm tn x :: ys.drop (nLess (renX nm tn x).2 (ys.map (·.2))))) :: .row (.slice (some ⟨g2, 0, none⟩) xs.length c) 51 44 xs.length (recsV xs) :: .row lv 3 1 t.lives.length (numsV t.lives) :: (xs.map rootH ++ R))) :
    RenS w w2 g t rv' lv g2 c xs (ys.take (nLess (renX nm tn x).2 (ys.map (·.2))) ++ renX nm tn x :: ys.drop (nLess (renX nm tn x).2 (ys.map (·.2)))) (j + 1) nm tn R := by
  have hxr : t.recs[j]? = some x.2 := by rw [← hok.eq, List.getElem?_map, hx]; rfl
  refine ⟨hst, ?_, ?_, ?_, ?_⟩
  · have hle := nLess_le (renX nm tn x).2 (ys.map (·.2))
    rw [List.length_map] at hle
    rw [List.length_append, List.length_cons, List.length_take, List.length_drop, ← h.len]
    omega
  · rw [lay_map, h.eq, List.take_add_one, hxr, List.map_append]
    exact (sortL_snoc _ _).symm
  · refine (lay_roots rootH (renX nm tn x) ys _).trans ?_
    rw [renX_root, List.take_add_one, hx, List.map_append]
    exact (List.Perm.cons _ h.roots).trans (List.perm_append_singleton _ _).symm
  · intro y hy
    rcases List.mem_append.1 hy with hy | hy
    · exact h.ok y (List.mem_of_mem_take hy)
    · rcases List.mem_cons.1 hy with rfl | hy
      · have := hok.ok x (List.mem_of_getElem? hx)
        exact ⟨by show L32 (renR nm tn x.2).S; rw [(renR_root nm tn x.2).1]; exact this.1, renR_len htn this.2⟩
      · exact h.ok y (List.mem_of_mem_drop hy)
theorem ren_done {w w1 : World} {g : Nat} {al : Option Addr} {cl : Nat} {t : TC} {rv : Value} {g2 c : Nat} {xs ys : List (Value × RC)} {nm tn : List UInt8} {R : List HA} {r : TR} (h : RenS w w1 g t rv (.slice al t.lives.length cl) g2 c xs ys xs.length nm tn R) (hok : Okx xs t) (hr : r = (0, { t with recs := sortL (t.recs.map (renR nm tn)) })) : DoesPost g al cl w t r R (.returned (.int .i64 0)) w1 := by
  subst hr
  have e : t.recs.take xs.length = t.recs := List.take_of_length_le (by rw [hok.len]; exact Nat.le_refl _)
  refine ⟨rfl, fun _ => ⟨rv, ys, ⟨?_, h.ok⟩, ?_, rfl⟩, fun h0 => by cases h0⟩
  · have := h.eq
    rwa [e] at this
  · have hp := h.roots
    rw [List.take_length] at hp
    unfold TP
    rw [h.len]
    exact St.perm (St.sub h.st (.cons_cons _ (.cons_cons _ (.cons _ (.cons_cons _ (List.Sublist.refl _)))))) (.cons _ (.cons _ (.cons _ (hp.symm.append_right R))))
theorem rename_does {w : World} {g1 gt : Nat} (nm tn : List UInt8) (h1 : w.cell? ⟨g1, 0, none⟩ = some (.string ⟨nm.toArray⟩)) (h2 : w.cell? ⟨gt, 0, none⟩ = some (.string ⟨tn.toArray⟩)) (hl : nm.length ≤ 1000000) (hln : tn.length ≤ 1000000) (t : TC) (hk : t.ok = true) :
    Does 37 #[.pointer (some ⟨g1, 0, none⟩), .pointer (some ⟨gt, 0, none⟩)] w t (renameT t nm tn) := by
  intro g ao c al cl xs R w1 hok hst0
  show Calls _ _ #[.pointer (some ⟨g, 0, none⟩), .pointer (some ⟨g1, 0, none⟩), .pointer (some ⟨gt, 0, none⟩)] _ _
  have hst := hst0
  have H1 := hid h1
  have H2 := hid h2
  have HOK := hid hok
  have HK := hid hk
  have b2 : xs.length ≤ 16 := by rw [hok.len]; exact ok_many hk
  clear hst0 hok hk h1 h2
  obtain ⟨r, hr⟩ : ∃ r, r = renameT t nm tn := ⟨_, rfl⟩
  rw [← hr]
  obtain ⟨e, hal⟩ : ∃ e, alikeB nm tn = e := ⟨_, rfl⟩
  have HAL := hid hal
  have HV := hid (show r = if e then (if isAt nm t.recs then (if isAt tn t.recs then badR 7 else (0, { t with recs := sortL (t.recs.map (renR nm tn)) })) else badR 6) else badR 2 by rw [hr]; unfold renameT; rw [hal])
  clear hr hal
  cases e
  · have HB := hid (show r = badR 2 from HV.out)
    clear HV
    go_enter Try.func37, Try.ntmps37
    go_wp2_with (first | go_big_skip | go_big_guard | (refine wl_loadE rfl rfl rfl ?_; first | refine ⟨_, Loads.old hst H1.out, ?_⟩ | refine ⟨_, Loads.old hst H2.out, ?_⟩) | (go_at_call 38; refine (alike13_any nm tn _ (by omega) (by omega)).mono ?_; rw [HAL.out]; rintro _ w9 ⟨rfl, h4⟩; replace hst := St.call0 hst h4; clear h4))
    go_ret
    exact does_bad (L := []) HB.out (by decide) hst
  · have HALB : Hid (alikeB nm tn = true) := HAL
    rcases find_split (nm := nm) (l := t.recs) with ⟨hra, hf⟩ | ⟨j, y, hy, hra, hfn, hf, hnm⟩
    · have HF := hid hf
      have hi : isAt nm t.recs = false := by unfold isAt; rw [hra]; rfl
      have HB := hid (show r = badR 6 by rw [HV.out, hi]; rfl)
      clear HV hf hra hi
      go_enter Try.func37, Try.ntmps37
      go_wp2_with (first | go_big_skip | go_big_guard | (refine wl_loadE rfl rfl rfl ?_; first | refine ⟨_, Loads.old hst H1.out, ?_⟩ | refine ⟨_, Loads.old hst H2.out, ?_⟩) | (go_at_call 38; refine (alike13_any nm tn _ (by omega) (by omega)).mono ?_; rw [HAL.out]; rintro _ w9 ⟨rfl, h4⟩; replace hst := St.call0 hst h4; clear h4))
      have hX := hst.drew
      clear hst
      refine wp_region_held_drew (S := (fun w' => (loadVarH 27 ⟨g, 0, none⟩).run Try.prog w' = .ok (.agg (List.toArray ((tabC t (.slice ao xs.length c) (.slice al t.lives.length cl))))) w' ∧ (loadVarH 9 ⟨g1, 0, none⟩).run Try.prog w' = .ok (.string ⟨nm.toArray⟩) w')) (by kernel_rfl) (by exact ⟨ldA ((tabC t (.slice ao xs.length c) (.slice al t.lives.length cl))) [] hX (rfl) (rfl), ldO hX (H1.out)⟩) (fun hHeld => ?_)
      refine wpAnyH_take (i := 0) (oi := ⟨some 20, _, _, _, _, _⟩) (v := ?_) rfl (by kernel_rfl) (by kernel_rfl) (by kernel_rfl) (fun _ _ _ h => h) (Or.inl ⟨by rfl, ?_⟩) (by assumption) ?_
      rotate_left
      · intro w hSw; (try dsimp only at hSw); go_simp; try with_reducible rfl
      (try simp only [Act.put, List.setIfInBounds_toArray, List.set_cons_zero, List.set_cons_succ])
      refine wpAnyH_take (i := 3) (oi := ⟨some 23, _, _, _, _, _⟩) (v := ?_) rfl (by kernel_rfl) (by kernel_rfl) (by kernel_rfl) (fun _ _ _ h => h) (Or.inl ⟨by rfl, ?_⟩) (by assumption) ?_
      rotate_left
      · intro w hSw; (try dsimp only at hSw); go_simp; try with_reducible rfl
      (try simp only [Act.put, List.setIfInBounds_toArray, List.set_cons_zero, List.set_cons_succ])
      refine wpAnyH_take (i := 1) (oi := ⟨some 21, _, _, _, _, _⟩) (v := ?_) rfl (by kernel_rfl) (by kernel_rfl) (by kernel_rfl) (fun _ _ _ h => h) (Or.inl ⟨by rfl, ?_⟩) (by assumption) ?_
      rotate_left
      · intro w hSw; (try dsimp only at hSw); go_simp; try with_reducible rfl
      (try simp only [Act.put, List.setIfInBounds_toArray, List.set_cons_zero, List.set_cons_succ])
      refine wpAnyH_take (i := 2) (oi := ⟨some 22, _, _, _, _, _⟩) (v := ?_) rfl (by kernel_rfl) (by kernel_rfl) (by kernel_rfl) (fun _ _ _ h => h) (Or.inl ⟨by rfl, ?_⟩) (by assumption) ?_
      rotate_left
      · intro w hSw; (try dsimp only at hSw); go_simp; try with_reducible rfl
      (try simp only [Act.put, List.setIfInBounds_toArray, List.set_cons_zero, List.set_cons_succ])
      refine wpAnyH_ready (rs := [4]) (by kernel_rfl) (by simp) ?_
      refine (AllReadyH.cons (o := ⟨some 24, _, _, _, _, _⟩) rfl (fun K hK => ?_) AllReadyH.nil)
      rw [if_pos (by rfl)]
      go_simp
      go_at_call 33
      refine (find_any t _ nm ao xs.length c xs _ (tp_recs [] HOK.out hX) (by omega)).mono ?_
      rw [HOK.out.eq, HF.out]
      rintro _ w5 ⟨rfl, h4⟩
      have hstF := St.call0 hX h4
      clear h4
      refine hK.out _ _ ?_ (fun hHeld => ?_)
      · exact ⟨ldA ((tabC t (.slice ao xs.length c) (.slice al t.lives.length cl))) [] hstF (rfl) (rfl), ldO hstF (H1.out)⟩
      clear hK K
      (try simp only [Act.put, List.setIfInBounds_toArray, List.set_cons_zero, List.set_cons_succ])
      refine wpAnyH_take (i := 5) (oi := ⟨some 19, _, _, _, _, _⟩) (v := ?_) rfl (by kernel_rfl) (by kernel_rfl) (by kernel_rfl) (fun _ _ _ h => h) (Or.inl ⟨by rfl, ?_⟩) (by assumption) ?_
      rotate_left
      · intro w hSw; (try dsimp only at hSw); go_simp; try with_reducible rfl
      (try simp only [Act.put, List.setIfInBounds_toArray, List.set_cons_zero, List.set_cons_succ])
      refine wpAnyH_take (i := 6) (oi := ⟨some 25, _, _, _, _, _⟩) (v := ?_) rfl (by kernel_rfl) (by kernel_rfl) (by kernel_rfl) (fun _ _ _ h => h) (Or.inl ⟨by rfl, ?_⟩) (by assumption) ?_
      rotate_left
      · intro w hSw; (try dsimp only at hSw); go_simp; try with_reducible rfl
      (try simp only [Act.put, List.setIfInBounds_toArray, List.set_cons_zero, List.set_cons_succ])
      refine wpAnyH_take (i := 7) (oi := ⟨some 26, _, _, _, _, _⟩) (v := ?_) rfl (by kernel_rfl) (by kernel_rfl) (by kernel_rfl) (fun _ _ _ h => h) (Or.inl ⟨by rfl, ?_⟩) (by assumption) ?_
      rotate_left
      · intro w hSw; (try dsimp only at hSw); go_simp; try with_reducible rfl
      (try simp only [Act.put, List.setIfInBounds_toArray, List.set_cons_zero, List.set_cons_succ])
      refine wpAnyH_take (i := 8) (oi := ⟨some 5, _, _, _, _, _⟩) (v := ?_) rfl (by kernel_rfl) (by kernel_rfl) (by kernel_rfl) (fun _ _ _ h => h) (Or.inl ⟨by rfl, ?_⟩) (by assumption) ?_
      rotate_left
      · intro w hSw; (try dsimp only at hSw); go_simp; try with_reducible rfl
      (try simp only [Act.put, List.setIfInBounds_toArray, List.set_cons_zero, List.set_cons_succ])
      refine wpAnyH_take (i := 9) (oi := ⟨some 6, _, _, _, _, _⟩) (v := ?_) rfl (by kernel_rfl) (by kernel_rfl) (by kernel_rfl) (fun _ _ _ h => h) (Or.inl ⟨by rfl, ?_⟩) (by assumption) ?_
      rotate_left
      · intro w hSw; (try dsimp only at hSw); go_simp; try with_reducible rfl
      (try simp only [Act.put, List.setIfInBounds_toArray, List.set_cons_zero, List.set_cons_succ])
      refine wpAnyH_done (by kernel_rfl) ?_ _
      clear hHeld
      have hst : St w [] _ (TP g t (.slice ao xs.length c) (.slice al t.lives.length cl) xs R) := hstF
      clear hstF
      go_wp2_with (first | go_big_skip | go_big_guard | fail)
      go_ret
      exact does_bad (L := []) HB.out (by decide) hst
    · have HF := hid hf
      have hi : isAt nm t.recs = true := by unfold isAt; rw [hra]; rfl
      have hn0 : 0 < xs.length := by rw [HOK.out.len]; have := (List.getElem?_eq_some_iff.1 hy).1; omega
      obtain ⟨g2, c2, he⟩ := tp_spot [] hst hn0
      cases he
      rcases find_split (nm := tn) (l := t.recs) with ⟨hra2, hf2⟩ | ⟨j2, y2, hy2, hra2, hfn2, hf2, hnm2⟩
      · have HF2 := hid hf2
        have hi2 : isAt tn t.recs = false := by unfold isAt; rw [hra2]; rfl
        have HTN := hid hi2
        have HB := hid (show r = (0, { t with recs := sortL (t.recs.map (renR nm tn)) }) by rw [HV.out, hi, hi2]; rfl)
        clear HV hf hra hi hy hfn hnm hf2 hra2 hi2
        go_enter Try.func37, Try.ntmps37
        go_wp2_with (first | go_big_skip | go_big_guard | (refine wl_loadE rfl rfl rfl ?_; first | refine ⟨_, Loads.old hst H1.out, ?_⟩ | refine ⟨_, Loads.old hst H2.out, ?_⟩) | (go_at_call 38; refine (alike13_any nm tn _ (by omega) (by omega)).mono ?_; rw [HAL.out]; rintro _ w9 ⟨rfl, h4⟩; replace hst := St.call0 hst h4; clear h4))
        have hX := hst.drew
        clear hst
        refine wp_region_held_drew (S := (fun w' => (loadVarH 27 ⟨g, 0, none⟩).run Try.prog w' = .ok (.agg (List.toArray ((tabC t (.slice (some ⟨g2, 0, none⟩) xs.length c) (.slice al t.lives.length cl))))) w' ∧ (loadVarH 9 ⟨g1, 0, none⟩).run Try.prog w' = .ok (.string ⟨nm.toArray⟩) w')) (by kernel_rfl) (by exact ⟨ldA ((tabC t (.slice (some ⟨g2, 0, none⟩) xs.length c) (.slice al t.lives.length cl))) [] hX (rfl) (rfl), ldO hX (H1.out)⟩) (fun hHeld => ?_)
        refine wpAnyH_take (i := 0) (oi := ⟨some 20, _, _, _, _, _⟩) (v := ?_) rfl (by kernel_rfl) (by kernel_rfl) (by kernel_rfl) (fun _ _ _ h => h) (Or.inl ⟨by rfl, ?_⟩) (by assumption) ?_
        rotate_left
        · intro w hSw; (try dsimp only at hSw); go_simp; try with_reducible rfl
        (try simp only [Act.put, List.setIfInBounds_toArray, List.set_cons_zero, List.set_cons_succ])
        refine wpAnyH_take (i := 3) (oi := ⟨some 23, _, _, _, _, _⟩) (v := ?_) rfl (by kernel_rfl) (by kernel_rfl) (by kernel_rfl) (fun _ _ _ h => h) (Or.inl ⟨by rfl, ?_⟩) (by assumption) ?_
        rotate_left
        · intro w hSw; (try dsimp only at hSw); go_simp; try with_reducible rfl
        (try simp only [Act.put, List.setIfInBounds_toArray, List.set_cons_zero, List.set_cons_succ])
        refine wpAnyH_take (i := 1) (oi := ⟨some 21, _, _, _, _, _⟩) (v := ?_) rfl (by kernel_rfl) (by kernel_rfl) (by kernel_rfl) (fun _ _ _ h => h) (Or.inl ⟨by rfl, ?_⟩) (by assumption) ?_
        rotate_left
        · intro w hSw; (try dsimp only at hSw); go_simp; try with_reducible rfl
        (try simp only [Act.put, List.setIfInBounds_toArray, List.set_cons_zero, List.set_cons_succ])
        refine wpAnyH_take (i := 2) (oi := ⟨some 22, _, _, _, _, _⟩) (v := ?_) rfl (by kernel_rfl) (by kernel_rfl) (by kernel_rfl) (fun _ _ _ h => h) (Or.inl ⟨by rfl, ?_⟩) (by assumption) ?_
        rotate_left
        · intro w hSw; (try dsimp only at hSw); go_simp; try with_reducible rfl
        (try simp only [Act.put, List.setIfInBounds_toArray, List.set_cons_zero, List.set_cons_succ])
        refine wpAnyH_ready (rs := [4]) (by kernel_rfl) (by simp) ?_
        refine (AllReadyH.cons (o := ⟨some 24, _, _, _, _, _⟩) rfl (fun K hK => ?_) AllReadyH.nil)
        rw [if_pos (by rfl)]
        go_simp
        go_at_call 33
        refine (find_any t _ nm (some ⟨g2, 0, none⟩) xs.length c xs _ (tp_recs [] HOK.out hX) (by omega)).mono ?_
        rw [HOK.out.eq, HF.out]
        rintro _ w5 ⟨rfl, h4⟩
        have hstF := St.call0 hX h4
        clear h4
        refine hK.out _ _ ?_ (fun hHeld => ?_)
        · exact ⟨ldA ((tabC t (.slice (some ⟨g2, 0, none⟩) xs.length c) (.slice al t.lives.length cl))) [] hstF (rfl) (rfl), ldO hstF (H1.out)⟩
        clear hK K
        (try simp only [Act.put, List.setIfInBounds_toArray, List.set_cons_zero, List.set_cons_succ])
        refine wpAnyH_take (i := 5) (oi := ⟨some 19, _, _, _, _, _⟩) (v := ?_) rfl (by kernel_rfl) (by kernel_rfl) (by kernel_rfl) (fun _ _ _ h => h) (Or.inl ⟨by rfl, ?_⟩) (by assumption) ?_
        rotate_left
        · intro w hSw; (try dsimp only at hSw); go_simp; try with_reducible rfl
        (try simp only [Act.put, List.setIfInBounds_toArray, List.set_cons_zero, List.set_cons_succ])
        refine wpAnyH_take (i := 6) (oi := ⟨some 25, _, _, _, _, _⟩) (v := ?_) rfl (by kernel_rfl) (by kernel_rfl) (by kernel_rfl) (fun _ _ _ h => h) (Or.inl ⟨by rfl, ?_⟩) (by assumption) ?_
        rotate_left
        · intro w hSw; (try dsimp only at hSw); go_simp; try with_reducible rfl
        (try simp only [Act.put, List.setIfInBounds_toArray, List.set_cons_zero, List.set_cons_succ])
        refine wpAnyH_take (i := 7) (oi := ⟨some 26, _, _, _, _, _⟩) (v := ?_) rfl (by kernel_rfl) (by kernel_rfl) (by kernel_rfl) (fun _ _ _ h => h) (Or.inl ⟨by rfl, ?_⟩) (by assumption) ?_
        rotate_left
        · intro w hSw; (try dsimp only at hSw); go_simp; try with_reducible rfl
        (try simp only [Act.put, List.setIfInBounds_toArray, List.set_cons_zero, List.set_cons_succ])
        refine wpAnyH_take (i := 8) (oi := ⟨some 5, _, _, _, _, _⟩) (v := ?_) rfl (by kernel_rfl) (by kernel_rfl) (by kernel_rfl) (fun _ _ _ h => h) (Or.inl ⟨by rfl, ?_⟩) (by assumption) ?_
        rotate_left
        · intro w hSw; (try dsimp only at hSw); go_simp; try with_reducible rfl
        (try simp only [Act.put, List.setIfInBounds_toArray, List.set_cons_zero, List.set_cons_succ])
        refine wpAnyH_take (i := 9) (oi := ⟨some 6, _, _, _, _, _⟩) (v := ?_) rfl (by kernel_rfl) (by kernel_rfl) (by kernel_rfl) (fun _ _ _ h => h) (Or.inl ⟨by rfl, ?_⟩) (by assumption) ?_
        rotate_left
        · intro w hSw; (try dsimp only at hSw); go_simp; try with_reducible rfl
        (try simp only [Act.put, List.setIfInBounds_toArray, List.set_cons_zero, List.set_cons_succ])
        refine wpAnyH_done (by kernel_rfl) ?_ _
        clear hHeld
        have hst : St w [] _ (TP g t (.slice (some ⟨g2, 0, none⟩) xs.length c) (.slice al t.lives.length cl) xs R) := hstF
        clear hstF
        go_wp2_with (first | go_big_skip | go_big_guard | fail)
        have hZ := hst.drew
        clear hst
        refine wp_region_held_drew (S := (fun w' => (loadVarH 27 ⟨g, 0, none⟩).run Try.prog w' = .ok (.agg (List.toArray ((tabC t (.slice (some ⟨g2, 0, none⟩) xs.length c) (.slice al t.lives.length cl))))) w' ∧ (loadVarH 9 ⟨gt, 0, none⟩).run Try.prog w' = .ok (.string ⟨tn.toArray⟩) w')) (by kernel_rfl) (by exact ⟨ldA ((tabC t (.slice (some ⟨g2, 0, none⟩) xs.length c) (.slice al t.lives.length cl))) [] hZ (rfl) (rfl), ldO hZ (H2.out)⟩) (fun hHeld => ?_)
        refine wpAnyH_take (i := 0) (oi := ⟨some 30, _, _, _, _, _⟩) (v := ?_) rfl (by kernel_rfl) (by kernel_rfl) (by kernel_rfl) (fun _ _ _ h => h) (Or.inl ⟨by rfl, ?_⟩) (by assumption) ?_
        rotate_left
        · intro w hSw; (try dsimp only at hSw); go_simp; try with_reducible rfl
        (try simp only [Act.put, List.setIfInBounds_toArray, List.set_cons_zero, List.set_cons_succ])
        refine wpAnyH_take (i := 3) (oi := ⟨some 33, _, _, _, _, _⟩) (v := ?_) rfl (by kernel_rfl) (by kernel_rfl) (by kernel_rfl) (fun _ _ _ h => h) (Or.inl ⟨by rfl, ?_⟩) (by assumption) ?_
        rotate_left
        · intro w hSw; (try dsimp only at hSw); go_simp; try with_reducible rfl
        (try simp only [Act.put, List.setIfInBounds_toArray, List.set_cons_zero, List.set_cons_succ])
        refine wpAnyH_take (i := 1) (oi := ⟨some 31, _, _, _, _, _⟩) (v := ?_) rfl (by kernel_rfl) (by kernel_rfl) (by kernel_rfl) (fun _ _ _ h => h) (Or.inl ⟨by rfl, ?_⟩) (by assumption) ?_
        rotate_left
        · intro w hSw; (try dsimp only at hSw); go_simp; try with_reducible rfl
        (try simp only [Act.put, List.setIfInBounds_toArray, List.set_cons_zero, List.set_cons_succ])
        refine wpAnyH_take (i := 2) (oi := ⟨some 32, _, _, _, _, _⟩) (v := ?_) rfl (by kernel_rfl) (by kernel_rfl) (by kernel_rfl) (fun _ _ _ h => h) (Or.inl ⟨by rfl, ?_⟩) (by assumption) ?_
        rotate_left
        · intro w hSw; (try dsimp only at hSw); go_simp; try with_reducible rfl
        (try simp only [Act.put, List.setIfInBounds_toArray, List.set_cons_zero, List.set_cons_succ])
        refine wpAnyH_ready (rs := [4]) (by kernel_rfl) (by simp) ?_
        refine (AllReadyH.cons (o := ⟨some 34, _, _, _, _, _⟩) rfl (fun K hK => ?_) AllReadyH.nil)
        rw [if_pos (by rfl)]
        go_simp
        go_at_call 33
        refine (find_any t _ tn (some ⟨g2, 0, none⟩) xs.length c xs _ (tp_recs [] HOK.out hZ) (by omega)).mono ?_
        rw [HOK.out.eq, HF2.out]
        rintro _ w5 ⟨rfl, h4⟩
        have hstG := St.call0 hZ h4
        clear h4
        refine hK.out _ _ ?_ (fun hHeld => ?_)
        · exact ⟨ldA ((tabC t (.slice (some ⟨g2, 0, none⟩) xs.length c) (.slice al t.lives.length cl))) [] hstG (rfl) (rfl), ldO hstG (H2.out)⟩
        clear hK K
        (try simp only [Act.put, List.setIfInBounds_toArray, List.set_cons_zero, List.set_cons_succ])
        refine wpAnyH_take (i := 5) (oi := ⟨some 29, _, _, _, _, _⟩) (v := ?_) rfl (by kernel_rfl) (by kernel_rfl) (by kernel_rfl) (fun _ _ _ h => h) (Or.inl ⟨by rfl, ?_⟩) (by assumption) ?_
        rotate_left
        · intro w hSw; (try dsimp only at hSw); go_simp; try with_reducible rfl
        (try simp only [Act.put, List.setIfInBounds_toArray, List.set_cons_zero, List.set_cons_succ])
        refine wpAnyH_take (i := 6) (oi := ⟨some 35, _, _, _, _, _⟩) (v := ?_) rfl (by kernel_rfl) (by kernel_rfl) (by kernel_rfl) (fun _ _ _ h => h) (Or.inl ⟨by rfl, ?_⟩) (by assumption) ?_
        rotate_left
        · intro w hSw; (try dsimp only at hSw); go_simp; try with_reducible rfl
        (try simp only [Act.put, List.setIfInBounds_toArray, List.set_cons_zero, List.set_cons_succ])
        refine wpAnyH_take (i := 7) (oi := ⟨some 36, _, _, _, _, _⟩) (v := ?_) rfl (by kernel_rfl) (by kernel_rfl) (by kernel_rfl) (fun _ _ _ h => h) (Or.inl ⟨by rfl, ?_⟩) (by assumption) ?_
        rotate_left
        · intro w hSw; (try dsimp only at hSw); go_simp; try with_reducible rfl
        (try simp only [Act.put, List.setIfInBounds_toArray, List.set_cons_zero, List.set_cons_succ])
        refine wpAnyH_take (i := 8) (oi := ⟨some 7, _, _, _, _, _⟩) (v := ?_) rfl (by kernel_rfl) (by kernel_rfl) (by kernel_rfl) (fun _ _ _ h => h) (Or.inl ⟨by rfl, ?_⟩) (by assumption) ?_
        rotate_left
        · intro w hSw; (try dsimp only at hSw); go_simp; try with_reducible rfl
        (try simp only [Act.put, List.setIfInBounds_toArray, List.set_cons_zero, List.set_cons_succ])
        refine wpAnyH_take (i := 9) (oi := ⟨some 8, _, _, _, _, _⟩) (v := ?_) rfl (by kernel_rfl) (by kernel_rfl) (by kernel_rfl) (fun _ _ _ h => h) (Or.inl ⟨by rfl, ?_⟩) (by assumption) ?_
        rotate_left
        · intro w hSw; (try dsimp only at hSw); go_simp; try with_reducible rfl
        (try simp only [Act.put, List.setIfInBounds_toArray, List.set_cons_zero, List.set_cons_succ])
        refine wpAnyH_done (by kernel_rfl) ?_ _
        clear hHeld
        have hst : St w [] _ (TP g t (.slice (some ⟨g2, 0, none⟩) xs.length c) (.slice al t.lives.length cl) xs R) := hstG
        clear hstG
        go_wp2_with (first | go_big_skip | go_big_guard | (refine wl_loadE rfl rfl rfl ?_; first | refine ⟨_, Loads.at [] hst rfl, ?_⟩) | (refine wl_store [] hst rfl rfl rfl (off := 1) (v := .slice none 0 0) rfl rfl rfl (by show (1 : Nat) + 1 ≤ 7; decide) ?_; intro w7 h4; have h5 := St.nilR 51 44 h4; have hstS : St w [] w7 (.blk g 27 (tabC t (.slice none 0 0) (.slice al t.lives.length cl)) :: .row (.slice none 0 0) 51 44 0 (recsV []) :: .row (.slice (some ⟨g2, 0, none⟩) xs.length c) 51 44 xs.length (recsV xs) :: .row (.slice al t.lives.length cl) 3 1 t.lives.length (numsV t.lives) :: (xs.map rootH ++ R)) := St.perm h5 (.swap _ _ _); clear h4 h5 hst))
        go_loopw [47] (fun i wr => ∃ (j : Nat) (rv : Value) (ys : List (Value × RC)), j ≤ xs.length ∧ i = .int .i64 (j : Int) ∧ RenS w wr g t rv (.slice al t.lives.length cl) g2 c xs ys j nm tn R) (fun i _ => xs.length - (intOf i).toNat)
        case atStart =>
          refine ⟨0, .slice none 0 0, [], Nat.zero_le _, rfl, ⟨?_, rfl, rfl, List.Perm.refl _, fun _ h => by cases h⟩⟩
          exact hstS
        case round =>
          clear hstS
          obtain ⟨j, rv, ys, hj, rfl, hS⟩ := hrel
          obtain ⟨ar, cr, rfl, _, _⟩ := rowS [_] hS.st
          have HS := hid hS
          clear hS
          by_cases hlt : j < xs.length
          · have e1 : decide ((j : Int) < (xs.length : Int)) = true := decide_eq_true (by omega)
            have z1 : IntKind.i64.wrap ((j : Int) + 1) = (j : Int) + 1 := IntWalk.i64_in _ (by omega)
            obtain ⟨x, hx⟩ : ∃ x, xs[j]? = some x := ⟨_, List.getElem?_eq_getElem hlt⟩
            have hxm := List.mem_of_getElem? hx
            have hxt : x.2 ∈ t.recs := by rw [← HOK.out.eq]; exact List.mem_map_of_mem hxm
            have HX := hid hx
            have HLX := hid (cellsR_len (HOK.out.ok x hxm).1)
            have HON := hid (cellsR_ones (OwnR.In (L := xs.map rootH ++ R) ⟨List.mem_append_left _ (List.mem_map_of_mem hxm), HOK.out.ok x hxm⟩ (St.sub HS.out.st (.cons _ (.cons _ (.cons _ (.cons _ (List.Sublist.refl _))))))))
            have hnl : x.2.name.length ≤ 1000000 := (HOK.out.ok x hxm).2
            have HNL := hid (show x.2.name.length ≤ 9223372036854775807 by omega)
            have HOR : Hid (OwnR (.row (.slice (some ⟨g2, 0, none⟩) xs.length c) 51 44 xs.length (recsV xs) :: .row (.slice al t.lives.length cl) 3 1 t.lives.length (numsV t.lives) :: (xs.map rootH ++ R)) (renX nm tn x)) := hid ⟨.tail _ (.tail _ (List.mem_append_left _ (by rw [renX_root]; exact List.mem_map_of_mem hxm))), by show L32 (renR nm tn x.2).S; rw [(renR_root nm tn x.2).1]; exact (HOK.out.ok x hxm).1, renR_len hln hnl⟩
            have HLY := hid (HOR.out.L)
            obtain ⟨⟨v, u, f⟩, hsp⟩ : ∃ p, splitL x.2.name = p := ⟨_, rfl⟩
            have HSP := hid hsp
            have HUL := hid (show u.length ≤ 9223372036854775807 by have := (split_in x.2.name hnl).2; rw [hsp] at this; have h2 : u.length ≤ 1000000 := this; omega)
            cases d1 : (x.2.name == nm)
            · cases d2 : (f && (v == nm))
              · have HRN := hid (show renX nm tn x = x by unfold renX renR; rw [if_neg (by rw [d1]; decide), hsp, if_neg (by rw [d2]; decide)])
                cases f
                · clear hx hxm hxt hsp d2 hnl
                  
                  go_wp2_with (first | go_big_skip | go_big_guard | (refine wl_index rfl rfl rfl rfl hlt ?_) | (refine wl_loadE rfl rfl rfl ?_; first | refine ⟨_, rowLoad HS.out.st (.tail _ (.tail _ (.head _))) rfl HOK.out.LX HX.out, ?_⟩ | refine ⟨.string ⟨x.2.name.toArray⟩, Loads.at [] hst3 rfl, ?_⟩ | refine ⟨_, Loads.old hst3 H1.out, ?_⟩ | refine ⟨_, Loads.old hst3 H2.out, ?_⟩ | refine ⟨_, (show Loads _ _ _ _ (.agg (cellsR (renX nm tn x)).toArray) from by rw [HRN.out]; exact Loads.atA (cellsR x) [] hst3 HLX.out (cellsR_all x)), ?_⟩) | (refine wl_alloc HS.out.st rfl rfl ?_; intro g9 w3 hst2) | (refine wl_storeA [] hst2 rfl rfl rfl rfl (by exact HLX.out) HON.out rfl ?_; intro w4 hst3; clear hst2) | (go_at_call 39; refine (split_any x.2.name _ HNL.out).mono ?_; rw [HSP.out]; rintro _ w9 ⟨rfl, h4⟩; replace hst3 := St.call0 hst3 h4; clear h4) | (go_at_call 40; refine (join_any tn u _ (by omega) HUL.out).mono ?_; rintro _ w9 ⟨rfl, h4⟩; replace hst3 := St.call0 hst3 h4; clear h4) | (go_at_call 41; refine (lay_any g t ar j cr (.slice al t.lives.length cl) ys (renX nm tn x) (St.sub hst3 (.cons _ (List.Sublist.refl _))) (HS.out.own _ _) HOR.out HS.out.len (HS.out.sorted HK.out HALB.out HTN.out) (by omega)).mono ?_; rintro _ w9 ⟨rv9, rfl, h4⟩; have hst5 := HS.out.next HOK.out HX.out hln h4; clear h4 hst3))
                  go_roundw
                  case rel => exact ⟨j + 1, rv9, _, by omega, rfl, hst5⟩
                  case measure => simp [intOf]; omega
                · have d3 : (v == nm) = false := by simpa using d2
                  clear hx hxm hxt hsp d2 hnl
                  
                  go_wp2_with (first | go_big_skip | go_big_guard | (refine wl_index rfl rfl rfl rfl hlt ?_) | (refine wl_loadE rfl rfl rfl ?_; first | refine ⟨_, rowLoad HS.out.st (.tail _ (.tail _ (.head _))) rfl HOK.out.LX HX.out, ?_⟩ | refine ⟨.string ⟨x.2.name.toArray⟩, Loads.at [] hst3 rfl, ?_⟩ | refine ⟨_, Loads.old hst3 H1.out, ?_⟩ | refine ⟨_, Loads.old hst3 H2.out, ?_⟩ | refine ⟨_, (show Loads _ _ _ _ (.agg (cellsR (renX nm tn x)).toArray) from by rw [HRN.out]; exact Loads.atA (cellsR x) [] hst3 HLX.out (cellsR_all x)), ?_⟩) | (refine wl_alloc HS.out.st rfl rfl ?_; intro g9 w3 hst2) | (refine wl_storeA [] hst2 rfl rfl rfl rfl (by exact HLX.out) HON.out rfl ?_; intro w4 hst3; clear hst2) | (go_at_call 39; refine (split_any x.2.name _ HNL.out).mono ?_; rw [HSP.out]; rintro _ w9 ⟨rfl, h4⟩; replace hst3 := St.call0 hst3 h4; clear h4) | (go_at_call 40; refine (join_any tn u _ (by omega) HUL.out).mono ?_; rintro _ w9 ⟨rfl, h4⟩; replace hst3 := St.call0 hst3 h4; clear h4) | (go_at_call 41; refine (lay_any g t ar j cr (.slice al t.lives.length cl) ys (renX nm tn x) (St.sub hst3 (.cons _ (List.Sublist.refl _))) (HS.out.own _ _) HOR.out HS.out.len (HS.out.sorted HK.out HALB.out HTN.out) (by omega)).mono ?_; rintro _ w9 ⟨rv9, rfl, h4⟩; have hst5 := HS.out.next HOK.out HX.out hln h4; clear h4 hst3))
                  go_roundw
                  case rel => exact ⟨j + 1, rv9, _, by omega, rfl, hst5⟩
                  case measure => simp [intOf]; omega
              · have h3 : f = true ∧ (v == nm) = true := by revert d2; cases f <;> cases (v == nm) <;> decide
                obtain ⟨rfl, d3⟩ := h3
                have HRN := hid (show renX nm tn x = nameX x (joinL tn u).1 by unfold renX renR; rw [if_neg (by rw [d1]; decide), hsp, if_pos (by rw [d3]; rfl)]; rfl)
                clear hx hxm hxt hsp d2 hnl
                
                go_wp2_with (first | go_big_skip | go_big_guard | (refine wl_index rfl rfl rfl rfl hlt ?_) | (refine wl_loadE rfl rfl rfl ?_; first | refine ⟨_, rowLoad HS.out.st (.tail _ (.tail _ (.head _))) rfl HOK.out.LX HX.out, ?_⟩ | refine ⟨.string ⟨x.2.name.toArray⟩, Loads.at [] hst3 rfl, ?_⟩ | refine ⟨_, Loads.old hst3 H1.out, ?_⟩ | refine ⟨_, Loads.old hst3 H2.out, ?_⟩ | refine ⟨_, Loads.atA (cellsR (renX nm tn x)) [] hst4 HLY.out (cellsR_all _), ?_⟩) | (refine wl_alloc HS.out.st rfl rfl ?_; intro g9 w3 hst2) | (refine wl_storeA [] hst2 rfl rfl rfl rfl (by exact HLX.out) HON.out rfl ?_; intro w4 hst3; clear hst2) | (go_at_call 39; refine (split_any x.2.name _ HNL.out).mono ?_; rw [HSP.out]; rintro _ w9 ⟨rfl, h4⟩; replace hst3 := St.call0 hst3 h4; clear h4) | (go_at_call 40; refine (join_any tn u _ (by omega) HUL.out).mono ?_; rintro _ w9 ⟨rfl, h4⟩; replace hst3 := St.call0 hst3 h4; clear h4) | (refine wl_store [] hst3 rfl rfl rfl (off := 1) (v := .string ⟨(joinL tn u).1.toArray⟩) rfl rfl rfl (by rw [HLX.out]; show (1 : Nat) + 1 ≤ 44; decide) ?_; intro w7 h4; have hst4 : St w [] w7 (.blk g9 51 (cellsR (renX nm tn x)) :: .blk g 27 (tabC t (.slice ar j cr) (.slice al t.lives.length cl)) :: .row (.slice ar j cr) 51 44 j (recsV ys) :: .row (.slice (some ⟨g2, 0, none⟩) xs.length c) 51 44 xs.length (recsV xs) :: .row (.slice al t.lives.length cl) 3 1 t.lives.length (numsV t.lives) :: (xs.map rootH ++ R)) := (by have e : cellsR (renX nm tn x) = cellsR (nameX x (joinL tn u).1) := (by rw [HRN.out]); rw [e]; exact h4); clear h4 hst3) | (go_at_call 41; refine (lay_any g t ar j cr (.slice al t.lives.length cl) ys (renX nm tn x) (St.sub hst4 (.cons _ (List.Sublist.refl _))) (HS.out.own _ _) HOR.out HS.out.len (HS.out.sorted HK.out HALB.out HTN.out) (by omega)).mono ?_; rintro _ w9 ⟨rv9, rfl, h4⟩; have hst5 := HS.out.next HOK.out HX.out hln h4; clear h4 hst4))
                go_roundw
                case rel => exact ⟨j + 1, rv9, _, by omega, rfl, hst5⟩
                case measure => simp [intOf]; omega
            · have HRN := hid (show renX nm tn x = nameX x tn by unfold renX renR; rw [if_pos d1]; rfl)
              clear hx hxm hxt hsp hnl
              
              go_wp2_with (first | go_big_skip | go_big_guard | (refine wl_index rfl rfl rfl rfl hlt ?_) | (refine wl_loadE rfl rfl rfl ?_; first | refine ⟨_, rowLoad HS.out.st (.tail _ (.tail _ (.head _))) rfl HOK.out.LX HX.out, ?_⟩ | refine ⟨.string ⟨x.2.name.toArray⟩, Loads.at [] hst3 rfl, ?_⟩ | refine ⟨_, Loads.old hst3 H1.out, ?_⟩ | refine ⟨_, Loads.old hst3 H2.out, ?_⟩ | refine ⟨_, Loads.atA (cellsR (renX nm tn x)) [] hst4 HLY.out (cellsR_all _), ?_⟩) | (refine wl_alloc HS.out.st rfl rfl ?_; intro g9 w3 hst2) | (refine wl_storeA [] hst2 rfl rfl rfl rfl (by exact HLX.out) HON.out rfl ?_; intro w4 hst3; clear hst2) | (go_at_call 39; refine (split_any x.2.name _ HNL.out).mono ?_; rw [HSP.out]; rintro _ w9 ⟨rfl, h4⟩; replace hst3 := St.call0 hst3 h4; clear h4) | (go_at_call 40; refine (join_any tn u _ (by omega) HUL.out).mono ?_; rintro _ w9 ⟨rfl, h4⟩; replace hst3 := St.call0 hst3 h4; clear h4) | (refine wl_store [] hst3 rfl rfl rfl (off := 1) (v := .string ⟨tn.toArray⟩) rfl rfl rfl (by rw [HLX.out]; show (1 : Nat) + 1 ≤ 44; decide) ?_; intro w7 h4; have hst4 : St w [] w7 (.blk g9 51 (cellsR (renX nm tn x)) :: .blk g 27 (tabC t (.slice ar j cr) (.slice al t.lives.length cl)) :: .row (.slice ar j cr) 51 44 j (recsV ys) :: .row (.slice (some ⟨g2, 0, none⟩) xs.length c) 51 44 xs.length (recsV xs) :: .row (.slice al t.lives.length cl) 3 1 t.lives.length (numsV t.lives) :: (xs.map rootH ++ R)) := (by have e : cellsR (renX nm tn x) = cellsR (nameX x tn) := (by rw [HRN.out]); rw [e]; exact h4); clear h4 hst3) | (go_at_call 41; refine (lay_any g t ar j cr (.slice al t.lives.length cl) ys (renX nm tn x) (St.sub hst4 (.cons _ (List.Sublist.refl _))) (HS.out.own _ _) HOR.out HS.out.len (HS.out.sorted HK.out HALB.out HTN.out) (by omega)).mono ?_; rintro _ w9 ⟨rv9, rfl, h4⟩; have hst5 := HS.out.next HOK.out HX.out hln h4; clear h4 hst4))
              go_roundw
              case rel => exact ⟨j + 1, rv9, _, by omega, rfl, hst5⟩
              case measure => simp [intOf]; omega
          · have e1 : decide ((j : Int) < (xs.length : Int)) = false := decide_eq_false (by omega)
            obtain rfl : j = xs.length := by omega
            go_wp2_with (first | go_big_skip | go_big_guard | fail)
            go_ret
            exact ren_done HS.out HOK.out HB.out
      · have HF2 := hid hf2
        have hi2 : isAt tn t.recs = true := by unfold isAt; rw [hra2]; rfl
        have HB := hid (show r = badR 7 by rw [HV.out, hi, hi2]; rfl)
        clear HV hf hra hi hy hfn hnm hf2 hra2 hi2 hy2 hfn2 hnm2
        go_enter Try.func37, Try.ntmps37
        go_wp2_with (first | go_big_skip | go_big_guard | (refine wl_loadE rfl rfl rfl ?_; first | refine ⟨_, Loads.old hst H1.out, ?_⟩ | refine ⟨_, Loads.old hst H2.out, ?_⟩) | (go_at_call 38; refine (alike13_any nm tn _ (by omega) (by omega)).mono ?_; rw [HAL.out]; rintro _ w9 ⟨rfl, h4⟩; replace hst := St.call0 hst h4; clear h4))
        have hX := hst.drew
        clear hst
        refine wp_region_held_drew (S := (fun w' => (loadVarH 27 ⟨g, 0, none⟩).run Try.prog w' = .ok (.agg (List.toArray ((tabC t (.slice (some ⟨g2, 0, none⟩) xs.length c) (.slice al t.lives.length cl))))) w' ∧ (loadVarH 9 ⟨g1, 0, none⟩).run Try.prog w' = .ok (.string ⟨nm.toArray⟩) w')) (by kernel_rfl) (by exact ⟨ldA ((tabC t (.slice (some ⟨g2, 0, none⟩) xs.length c) (.slice al t.lives.length cl))) [] hX (rfl) (rfl), ldO hX (H1.out)⟩) (fun hHeld => ?_)
        refine wpAnyH_take (i := 0) (oi := ⟨some 20, _, _, _, _, _⟩) (v := ?_) rfl (by kernel_rfl) (by kernel_rfl) (by kernel_rfl) (fun _ _ _ h => h) (Or.inl ⟨by rfl, ?_⟩) (by assumption) ?_
        rotate_left
        · intro w hSw; (try dsimp only at hSw); go_simp; try with_reducible rfl
        (try simp only [Act.put, List.setIfInBounds_toArray, List.set_cons_zero, List.set_cons_succ])
        refine wpAnyH_take (i := 3) (oi := ⟨some 23, _, _, _, _, _⟩) (v := ?_) rfl (by kernel_rfl) (by kernel_rfl) (by kernel_rfl) (fun _ _ _ h => h) (Or.inl ⟨by rfl, ?_⟩) (by assumption) ?_
        rotate_left
        · intro w hSw; (try dsimp only at hSw); go_simp; try with_reducible rfl
        (try simp only [Act.put, List.setIfInBounds_toArray, List.set_cons_zero, List.set_cons_succ])
        refine wpAnyH_take (i := 1) (oi := ⟨some 21, _, _, _, _, _⟩) (v := ?_) rfl (by kernel_rfl) (by kernel_rfl) (by kernel_rfl) (fun _ _ _ h => h) (Or.inl ⟨by rfl, ?_⟩) (by assumption) ?_
        rotate_left
        · intro w hSw; (try dsimp only at hSw); go_simp; try with_reducible rfl
        (try simp only [Act.put, List.setIfInBounds_toArray, List.set_cons_zero, List.set_cons_succ])
        refine wpAnyH_take (i := 2) (oi := ⟨some 22, _, _, _, _, _⟩) (v := ?_) rfl (by kernel_rfl) (by kernel_rfl) (by kernel_rfl) (fun _ _ _ h => h) (Or.inl ⟨by rfl, ?_⟩) (by assumption) ?_
        rotate_left
        · intro w hSw; (try dsimp only at hSw); go_simp; try with_reducible rfl
        (try simp only [Act.put, List.setIfInBounds_toArray, List.set_cons_zero, List.set_cons_succ])
        refine wpAnyH_ready (rs := [4]) (by kernel_rfl) (by simp) ?_
        refine (AllReadyH.cons (o := ⟨some 24, _, _, _, _, _⟩) rfl (fun K hK => ?_) AllReadyH.nil)
        rw [if_pos (by rfl)]
        go_simp
        go_at_call 33
        refine (find_any t _ nm (some ⟨g2, 0, none⟩) xs.length c xs _ (tp_recs [] HOK.out hX) (by omega)).mono ?_
        rw [HOK.out.eq, HF.out]
        rintro _ w5 ⟨rfl, h4⟩
        have hstF := St.call0 hX h4
        clear h4
        refine hK.out _ _ ?_ (fun hHeld => ?_)
        · exact ⟨ldA ((tabC t (.slice (some ⟨g2, 0, none⟩) xs.length c) (.slice al t.lives.length cl))) [] hstF (rfl) (rfl), ldO hstF (H1.out)⟩
        clear hK K
        (try simp only [Act.put, List.setIfInBounds_toArray, List.set_cons_zero, List.set_cons_succ])
        refine wpAnyH_take (i := 5) (oi := ⟨some 19, _, _, _, _, _⟩) (v := ?_) rfl (by kernel_rfl) (by kernel_rfl) (by kernel_rfl) (fun _ _ _ h => h) (Or.inl ⟨by rfl, ?_⟩) (by assumption) ?_
        rotate_left
        · intro w hSw; (try dsimp only at hSw); go_simp; try with_reducible rfl
        (try simp only [Act.put, List.setIfInBounds_toArray, List.set_cons_zero, List.set_cons_succ])
        refine wpAnyH_take (i := 6) (oi := ⟨some 25, _, _, _, _, _⟩) (v := ?_) rfl (by kernel_rfl) (by kernel_rfl) (by kernel_rfl) (fun _ _ _ h => h) (Or.inl ⟨by rfl, ?_⟩) (by assumption) ?_
        rotate_left
        · intro w hSw; (try dsimp only at hSw); go_simp; try with_reducible rfl
        (try simp only [Act.put, List.setIfInBounds_toArray, List.set_cons_zero, List.set_cons_succ])
        refine wpAnyH_take (i := 7) (oi := ⟨some 26, _, _, _, _, _⟩) (v := ?_) rfl (by kernel_rfl) (by kernel_rfl) (by kernel_rfl) (fun _ _ _ h => h) (Or.inl ⟨by rfl, ?_⟩) (by assumption) ?_
        rotate_left
        · intro w hSw; (try dsimp only at hSw); go_simp; try with_reducible rfl
        (try simp only [Act.put, List.setIfInBounds_toArray, List.set_cons_zero, List.set_cons_succ])
        refine wpAnyH_take (i := 8) (oi := ⟨some 5, _, _, _, _, _⟩) (v := ?_) rfl (by kernel_rfl) (by kernel_rfl) (by kernel_rfl) (fun _ _ _ h => h) (Or.inl ⟨by rfl, ?_⟩) (by assumption) ?_
        rotate_left
        · intro w hSw; (try dsimp only at hSw); go_simp; try with_reducible rfl
        (try simp only [Act.put, List.setIfInBounds_toArray, List.set_cons_zero, List.set_cons_succ])
        refine wpAnyH_take (i := 9) (oi := ⟨some 6, _, _, _, _, _⟩) (v := ?_) rfl (by kernel_rfl) (by kernel_rfl) (by kernel_rfl) (fun _ _ _ h => h) (Or.inl ⟨by rfl, ?_⟩) (by assumption) ?_
        rotate_left
        · intro w hSw; (try dsimp only at hSw); go_simp; try with_reducible rfl
        (try simp only [Act.put, List.setIfInBounds_toArray, List.set_cons_zero, List.set_cons_succ])
        refine wpAnyH_done (by kernel_rfl) ?_ _
        clear hHeld
        have hst : St w [] _ (TP g t (.slice (some ⟨g2, 0, none⟩) xs.length c) (.slice al t.lives.length cl) xs R) := hstF
        clear hstF
        go_wp2_with (first | go_big_skip | go_big_guard | fail)
        have hZ := hst.drew
        clear hst
        refine wp_region_held_drew (S := (fun w' => (loadVarH 27 ⟨g, 0, none⟩).run Try.prog w' = .ok (.agg (List.toArray ((tabC t (.slice (some ⟨g2, 0, none⟩) xs.length c) (.slice al t.lives.length cl))))) w' ∧ (loadVarH 9 ⟨gt, 0, none⟩).run Try.prog w' = .ok (.string ⟨tn.toArray⟩) w')) (by kernel_rfl) (by exact ⟨ldA ((tabC t (.slice (some ⟨g2, 0, none⟩) xs.length c) (.slice al t.lives.length cl))) [] hZ (rfl) (rfl), ldO hZ (H2.out)⟩) (fun hHeld => ?_)
        refine wpAnyH_take (i := 0) (oi := ⟨some 30, _, _, _, _, _⟩) (v := ?_) rfl (by kernel_rfl) (by kernel_rfl) (by kernel_rfl) (fun _ _ _ h => h) (Or.inl ⟨by rfl, ?_⟩) (by assumption) ?_
        rotate_left
        · intro w hSw; (try dsimp only at hSw); go_simp; try with_reducible rfl
        (try simp only [Act.put, List.setIfInBounds_toArray, List.set_cons_zero, List.set_cons_succ])
        refine wpAnyH_take (i := 3) (oi := ⟨some 33, _, _, _, _, _⟩) (v := ?_) rfl (by kernel_rfl) (by kernel_rfl) (by kernel_rfl) (fun _ _ _ h => h) (Or.inl ⟨by rfl, ?_⟩) (by assumption) ?_
        rotate_left
        · intro w hSw; (try dsimp only at hSw); go_simp; try with_reducible rfl
        (try simp only [Act.put, List.setIfInBounds_toArray, List.set_cons_zero, List.set_cons_succ])
        refine wpAnyH_take (i := 1) (oi := ⟨some 31, _, _, _, _, _⟩) (v := ?_) rfl (by kernel_rfl) (by kernel_rfl) (by kernel_rfl) (fun _ _ _ h => h) (Or.inl ⟨by rfl, ?_⟩) (by assumption) ?_
        rotate_left
        · intro w hSw; (try dsimp only at hSw); go_simp; try with_reducible rfl
        (try simp only [Act.put, List.setIfInBounds_toArray, List.set_cons_zero, List.set_cons_succ])
        refine wpAnyH_take (i := 2) (oi := ⟨some 32, _, _, _, _, _⟩) (v := ?_) rfl (by kernel_rfl) (by kernel_rfl) (by kernel_rfl) (fun _ _ _ h => h) (Or.inl ⟨by rfl, ?_⟩) (by assumption) ?_
        rotate_left
        · intro w hSw; (try dsimp only at hSw); go_simp; try with_reducible rfl
        (try simp only [Act.put, List.setIfInBounds_toArray, List.set_cons_zero, List.set_cons_succ])
        refine wpAnyH_ready (rs := [4]) (by kernel_rfl) (by simp) ?_
        refine (AllReadyH.cons (o := ⟨some 34, _, _, _, _, _⟩) rfl (fun K hK => ?_) AllReadyH.nil)
        rw [if_pos (by rfl)]
        go_simp
        go_at_call 33
        refine (find_any t _ tn (some ⟨g2, 0, none⟩) xs.length c xs _ (tp_recs [] HOK.out hZ) (by omega)).mono ?_
        rw [HOK.out.eq, HF2.out]
        rintro _ w5 ⟨rfl, h4⟩
        have hstG := St.call0 hZ h4
        clear h4
        refine hK.out _ _ ?_ (fun hHeld => ?_)
        · exact ⟨ldA ((tabC t (.slice (some ⟨g2, 0, none⟩) xs.length c) (.slice al t.lives.length cl))) [] hstG (rfl) (rfl), ldO hstG (H2.out)⟩
        clear hK K
        (try simp only [Act.put, List.setIfInBounds_toArray, List.set_cons_zero, List.set_cons_succ])
        refine wpAnyH_take (i := 5) (oi := ⟨some 29, _, _, _, _, _⟩) (v := ?_) rfl (by kernel_rfl) (by kernel_rfl) (by kernel_rfl) (fun _ _ _ h => h) (Or.inl ⟨by rfl, ?_⟩) (by assumption) ?_
        rotate_left
        · intro w hSw; (try dsimp only at hSw); go_simp; try with_reducible rfl
        (try simp only [Act.put, List.setIfInBounds_toArray, List.set_cons_zero, List.set_cons_succ])
        refine wpAnyH_take (i := 6) (oi := ⟨some 35, _, _, _, _, _⟩) (v := ?_) rfl (by kernel_rfl) (by kernel_rfl) (by kernel_rfl) (fun _ _ _ h => h) (Or.inl ⟨by rfl, ?_⟩) (by assumption) ?_
        rotate_left
        · intro w hSw; (try dsimp only at hSw); go_simp; try with_reducible rfl
        (try simp only [Act.put, List.setIfInBounds_toArray, List.set_cons_zero, List.set_cons_succ])
        refine wpAnyH_take (i := 7) (oi := ⟨some 36, _, _, _, _, _⟩) (v := ?_) rfl (by kernel_rfl) (by kernel_rfl) (by kernel_rfl) (fun _ _ _ h => h) (Or.inl ⟨by rfl, ?_⟩) (by assumption) ?_
        rotate_left
        · intro w hSw; (try dsimp only at hSw); go_simp; try with_reducible rfl
        (try simp only [Act.put, List.setIfInBounds_toArray, List.set_cons_zero, List.set_cons_succ])
        refine wpAnyH_take (i := 8) (oi := ⟨some 7, _, _, _, _, _⟩) (v := ?_) rfl (by kernel_rfl) (by kernel_rfl) (by kernel_rfl) (fun _ _ _ h => h) (Or.inl ⟨by rfl, ?_⟩) (by assumption) ?_
        rotate_left
        · intro w hSw; (try dsimp only at hSw); go_simp; try with_reducible rfl
        (try simp only [Act.put, List.setIfInBounds_toArray, List.set_cons_zero, List.set_cons_succ])
        refine wpAnyH_take (i := 9) (oi := ⟨some 8, _, _, _, _, _⟩) (v := ?_) rfl (by kernel_rfl) (by kernel_rfl) (by kernel_rfl) (fun _ _ _ h => h) (Or.inl ⟨by rfl, ?_⟩) (by assumption) ?_
        rotate_left
        · intro w hSw; (try dsimp only at hSw); go_simp; try with_reducible rfl
        (try simp only [Act.put, List.setIfInBounds_toArray, List.set_cons_zero, List.set_cons_succ])
        refine wpAnyH_done (by kernel_rfl) ?_ _
        clear hHeld
        have hst : St w [] _ (TP g t (.slice (some ⟨g2, 0, none⟩) xs.length c) (.slice al t.lives.length cl) xs R) := hstG
        clear hstG
        go_wp2_with (first | go_big_skip | go_big_guard | fail)
        go_ret
        exact does_bad (L := []) HB.out (by decide) hst
end Go.Proofs.Ytifajcblbedcoaa
namespace Go.Proofs.Ytifajcblbedcoaa
set_option linter.unusedVariables false
set_option linter.unusedSimpArgs false
open Go.RowKit Hp
attribute [local irreducible] Go.Calls Go.wpList
set_option maxRecDepth 100000
set_option maxHeartbeats 8000000
attribute [local go_sem ↓] heldInt heldInts heldRecs heldRec heldStr heldTab heldPtr heldFn
theorem rename13_any (t : TC) (ar al : Option Addr) (nr cr nl cl : Nat) (xs : List (Value × RC)) (w : World) (ht : TabIn w t ar nr cr al nl cl xs) (nm : List UInt8) (tn : List UInt8) (hnm : nm.length ≤ 1000000) (htn : tn.length ≤ 1000000) :
    Calls Try.prog 13 #[.agg (tabC t (.slice ar nr cr) (.slice al nl cl)).toArray, .string ⟨nm.toArray⟩, .string ⟨tn.toArray⟩] w (TabRet (opR t (renameT t nm tn)) w) := by
  have hst0 := St.refl w
  have HT := hid ht
  clear ht
  obtain ⟨r, hr⟩ : ∃ r, r = opR t (renameT t nm tn) := ⟨_, rfl⟩
  rw [← hr]
  have HR := hid hr
  clear hr
  go_enter Try.func13, Try.ntmps13
  go_wp2_with (first | go_big_skip | go_big_guard | (refine wl_boxA hst0 rfl rfl rfl ?_; intro g4 w1 hA0; clear hst0) | (refine wl_box hA0 rfl rfl rfl ?_; intro g5 _ hA1; clear hA0) | (refine wl_box hA1 rfl rfl rfl ?_; intro g6 _ hA2; clear hA1) | (refine wl_alloc hA2 rfl rfl ?_; intro gz _ hst; clear hA2) | (refine wl_loadE rfl rfl rfl ?_; refine ⟨_, Loads.atA (tabC t (.slice ar nr cr) (.slice al nl cl)) [_, _, _] hst rfl rfl, ?_⟩) | (go_at_call 24; refine (owned_any 37 #[.pointer (some ⟨g5, 0, none⟩), .pointer (some ⟨g6, 0, none⟩)] (fun _ _ => rfl) t ar al nr cr nl cl xs _ (HT.out.old hst.nil) (renameT t nm tn) (fun hk => rename_does nm tn (hst.cell (g := g5) (off := 0) (.tail _ (.tail _ (.head _))) rfl) (hst.cell (g := g6) (off := 0) (.tail _ (.head _)) rfl) hnm htn t hk)).mono ?_; rw [← HR.out]; rintro _ w9 ⟨rv9, lv9, xs9, rfl, hok9, h4⟩; have hst2 := St.call hst h4; clear h4 hst; obtain ⟨a9, c9, rfl, _, _⟩ := rowS [] hst2; obtain ⟨a8, c8, rfl, _, _⟩ := rowS [_] hst2; have HOK := hid hok9; clear hok9) | (refine wl_storeA (_ :: _ :: List.map rootH xs9) hst2 rfl rfl rfl rfl (vs := tabC r.2 (.slice a9 xs9.length c9) (.slice a8 r.2.lives.length c8)) rfl rfl rfl ?_; intro w7 hst3; clear hst2))
  have hl := Loads.atA (P := Try.prog) (off := 0) (T := 27) (tabC r.2 (.slice a9 xs9.length c9) (.slice a8 r.2.lives.length c8)) (_ :: _ :: List.map rootH xs9) hst3 rfl rfl
  refine bodyPost_ret (results_cellR rfl rfl rfl hl) rfl ?_
  exact ⟨_, _, xs9, rfl, HOK.out, St.sub hst3 (.cons_cons _ (.cons_cons _ (List.sublist_append_left _ _)))⟩
end Go.Proofs.Ytifajcblbedcoaa
namespace Go.Proofs.Ytifajcblbedcoaa
set_option linter.unusedVariables false
set_option linter.unusedSimpArgs false
open Go.RowKit Hp
attribute [local irreducible] Go.Calls Go.wpList
set_option maxRecDepth 100000
set_option maxHeartbeats 8000000
/-- A table lies among the pieces. -/
structure InP (P : List HA) (t : TC) (ar al : Option Addr) (cr cl : Nat) (xs : List (Value × RC)) : Prop where
  rr : HA.row (.slice ar xs.length cr) 51 44 xs.length (recsV xs) ∈ P
  ll : HA.row (.slice al t.lives.length cl) 3 1 t.lives.length (numsV t.lives) ∈ P
  roots : ∀ x ∈ xs, rootH x ∈ P
  ok : Okx xs t
theorem InP.mono {P P' : List HA} {t : TC} {ar al : Option Addr} {cr cl : Nat} {xs : List (Value × RC)} (h : InP P t ar al cr cl xs) (hs : ∀ y ∈ P, y ∈ P') : InP P' t ar al cr cl xs := ⟨hs _ h.rr, hs _ h.ll, fun x hx => hs _ (h.roots x hx), h.ok⟩
theorem InP.own {P : List HA} {t : TC} {ar al : Option Addr} {cr cl : Nat} {xs : List (Value × RC)} (h : InP P t ar al cr cl xs) : OwnX P xs := fun x hx => ⟨h.roots x hx, h.ok.ok x hx⟩
theorem InP.recs {w0 w : World} {M : List Nat} {B P : List HA} {t : TC} {ar al : Option Addr} {cr cl : Nat} {xs : List (Value × RC)} (h : InP P t ar al cr cl xs) (hst : St w0 M w (B ++ P)) : RecsIn w (.slice ar xs.length cr) xs.length xs :=
  recs_inL hst (List.mem_append_right _ h.rr) rfl (h.own.sub fun _ hy => List.mem_append_right _ hy)
theorem InP.tab {w0 w : World} {M : List Nat} {B P : List HA} {t : TC} {ar al : Option Addr} {cr cl : Nat} {xs : List (Value × RC)} (h : InP P t ar al cr cl xs) (hst : St w0 M w (B ++ P)) (hb : t.recs.length ≤ 1000000 ∧ t.lives.length ≤ 1000000) : TabIn w t ar xs.length cr al t.lives.length cl xs :=
  ⟨h.recs hst, h.ok.eq, Rd.row hst (List.mem_append_right _ h.ll), rfl, by rw [h.ok.len]; exact hb.1, hb.2⟩
/-- What a call told, among what was known. -/
theorem ret_pool {w w1 w2 : World} {B P : List HA} {z : Int} {u : TC} {e : Ending} (hst : St w [] w1 (B ++ P)) (h : TabRet (z, u) w1 e w2) :
    ∃ (a a' : Option Addr) (c c' : Nat) (P' : List HA) (xs' : List (Value × RC)), e = .returned (.tuple #[.agg (tabC u (.slice a xs'.length c) (.slice a' u.lives.length c')).toArray, .int .i64 z]) ∧ InP P' u a a' c c' xs' ∧ (∀ y ∈ P, y ∈ P') ∧ St w [] w2 (B ++ P') := by
  obtain ⟨rv, lv, xs, rfl, hok, h4⟩ := h
  have h5 := St.call hst h4
  obtain ⟨a9, c9, rfl, _, _⟩ := rowS [] h5
  obtain ⟨a8, c8, rfl, _, _⟩ := rowS [_] h5
  refine ⟨a9, a8, c9, c8, (.row (.slice a9 xs.length c9) 51 44 xs.length (recsV xs) :: .row (.slice a8 u.lives.length c8) 3 1 u.lives.length (numsV u.lives) :: xs.map rootH) ++ P, xs, rfl, ⟨by simp, by simp, fun x hx => List.mem_append_left _ (.tail _ (.tail _ (List.mem_map_of_mem hx))), hok⟩, fun y hy => List.mem_append_right _ hy, St.perm h5 ?_⟩
  rw [← List.append_assoc, ← List.append_assoc]
  exact List.perm_append_comm.append_right P
def namesOf (t : TC) : List (List UInt8) := t.recs.map (·.name)
def strsW (l : List (List UInt8)) : List Value := l.map fun s => .string ⟨s.toArray⟩
theorem strsW_get {l : List (List UInt8)} {k : Nat} {s : List UInt8} (h : l[k]? = some s) : (strsW l)[k]? = some (.string ⟨s.toArray⟩) := by simp [strsW, h]
attribute [local go_sem ↓] heldInt heldInts heldRecs heldRec heldStr heldTab heldPtr heldFn
instance slStr : TySl Try.prog 73 9 := ⟨by kernel_rfl⟩
instance elStr : TyE Try.prog 9 1 16 := ⟨by kernel_rfl⟩
theorem list_no {l k : List (List UInt8)} {j : Nat} {a b : List UInt8} (ha : l[j]? = some a) (hb : k[j]? = some b) (h : a ≠ b) : (l == k) = false := by
  rw [beq_eq_false_iff_ne]
  rintro rfl
  rw [ha] at hb
  exact h (Option.some.inj hb)
theorem list_all {l k : List (List UInt8)} (hl : l.length = k.length) (h : ∀ (j : Nat) (a b : List UInt8), l[j]? = some a → k[j]? = some b → a = b) : (l == k) = true := by
  rw [beq_iff_eq]
  apply List.ext_getElem hl
  intro j h1 h2
  exact h j _ _ (List.getElem?_eq_getElem h1) (List.getElem?_eq_getElem h2)
theorem list_len {l k : List (List UInt8)} (h : l.length ≠ k.length) : (l == k) = false := by
  rw [beq_eq_false_iff_ne]
  exact fun e => h (by rw [e])
theorem names13_any (t : TC) (ar : Option Addr) (nr cr : Nat) (lv : Value) (xs : List (Value × RC)) (so' : Option Addr) (k ck : Nat) (want : List (List UInt8)) (w : World) (hR : RecsIn w (.slice ar nr cr) nr xs) (he : xs.map (·.2) = t.recs) (hb : nr ≤ 1000) (hs : Rd w (.slice so' k ck) 1 k (strsW want)) (hk : want.length = k) (hkb : k ≤ 1000) :
    Calls Try.prog 14 #[.agg (tabC t (.slice ar nr cr) lv).toArray, .slice so' k ck] w fun e w' => e = .returned (.bool (namesOf t == want)) ∧ St w [] w' [] := by
  have hst0 := St.refl w
  have HR := hid hR
  have HSR := hid hs
  have HK := hid hk
  have hnl : (namesOf t).length = nr := by unfold namesOf; rw [List.length_map, ← he, List.length_map, hR.len]
  have HNL := hid hnl
  have HNE := hid he
  obtain ⟨E, hE⟩ : ∃ E, E = (namesOf t == want) := ⟨_, rfl⟩
  rw [← hE]
  have HE := hid hE
  clear hR hs hk hE hnl he
  by_cases hnk : nr = k
  · subst hnk
    have d1 : ((nr : Int) != (nr : Int)) = false := by simp
    go_enter Try.func14, Try.ntmps14
    go_wp2_with (first | go_big_skip | go_big_guard | (refine wl_boxA hst0 rfl rfl rfl ?_; intro g2 w1 hst; clear hst0) | (refine wl_loadE rfl rfl rfl ?_; refine ⟨_, Loads.at [] hst rfl, ?_⟩))
    go_loopw [5] (fun i wr => ∃ j : Nat, j ≤ nr ∧ i = .int .i64 (j : Int) ∧ St w [] wr [.blk g2 27 (tabC t (.slice ar nr cr) lv)] ∧ Hid (∀ (i : Nat) (a b : List UInt8), i < j → (namesOf t)[i]? = some a → want[i]? = some b → a = b)) (fun i _ => nr - (intOf i).toNat)
    case atStart => exact ⟨0, Nat.zero_le _, rfl, hst, hid (fun i a b hi _ _ => by omega)⟩
    case round =>
      clear hst
      obtain ⟨j, hj, rfl, hst, HP⟩ := hrel
      by_cases hlt : j < nr
      · have e1 : decide ((j : Int) < (nr : Int)) = true := decide_eq_true (by omega)
        have z1 : IntKind.i64.wrap ((j : Int) + 1) = (j : Int) + 1 := IntWalk.i64_in _ (by omega)
        obtain ⟨x, lb, lo, hx, har, hin, hr⟩ := RecsIn.at HR.out hlt
        subst har
        obtain ⟨s, hs⟩ : ∃ s, want[j]? = some s := ⟨_, List.getElem?_eq_getElem (by rw [HK.out]; exact hlt)⟩
        obtain ⟨sb, so, hso, hr2⟩ := Rd.at HSR.out hlt
        subst hso
        have HX : Hid ((namesOf t)[j]? = some x.2.name) := hid (by unfold namesOf; rw [← HNE.out, List.getElem?_map, List.getElem?_map, hx]; rfl)
        have HS := hid hs
        have HNX := hid (show w.cell? ⟨lb, lo + j * 44 + 1, none⟩ = some (.string ⟨x.2.name.toArray⟩) from hr 1 _ rfl)
        have HNS := hid (show w.cell? ⟨sb, so + j, none⟩ = some (.string ⟨s.toArray⟩) from hr2 j _ (strsW_get hs))
        clear hx hs hr hr2 hin
        go_wp2_with (first | go_big_skip | go_big_guard | fail)
        cases hq : (x.2.name == s)
        · have HQ := hid hq
          have hX := hst.drew
          clear hst
          refine wp_region_held_drew (S := (fun w' => (loadVarH 22 ⟨g2, 1, none⟩).run Try.prog w' = .ok (.slice (some ⟨lb, lo, none⟩) nr cr) w' ∧ (loadVarH 9 ⟨lb, lo + j * 44 + 1, none⟩).run Try.prog w' = .ok (.string ⟨x.2.name.toArray⟩) w' ∧ (loadVarH 9 ⟨sb, so + j, none⟩).run Try.prog w' = .ok (.string ⟨s.toArray⟩) w')) (by kernel_rfl) (by exact ⟨ldS [] hX rfl, ldO hX HNX.out, ldO hX HNS.out⟩) (fun hHeld => ?_)
          refine wpAnyH_take (i := 0) (oi := ⟨some 18, _, _, _, _, _⟩) (v := ?_) rfl (by kernel_rfl) (by kernel_rfl) (by kernel_rfl) (fun _ _ _ h => h) (Or.inl ⟨by rfl, ?_⟩) (by assumption) ?_
          rotate_left
          · intro w hSw; (try dsimp only at hSw); go_simp; try with_reducible rfl
          (try simp only [Act.put, List.setIfInBounds_toArray, List.set_cons_zero, List.set_cons_succ])
          refine wpAnyH_take (i := 2) (oi := ⟨some 20, _, _, _, _, _⟩) (v := ?_) rfl (by kernel_rfl) (by kernel_rfl) (by kernel_rfl) (fun _ _ _ h => h) (Or.inl ⟨by rfl, ?_⟩) (by assumption) ?_
          rotate_left
          · intro w hSw; (try dsimp only at hSw); go_simp; try with_reducible rfl
          (try simp only [Act.put, List.setIfInBounds_toArray, List.set_cons_zero, List.set_cons_succ])
          refine wpAnyH_take (i := 6) (oi := ⟨some 24, _, _, _, _, _⟩) (v := ?_) rfl (by kernel_rfl) (by kernel_rfl) (by kernel_rfl) (fun _ _ _ h => h) (Or.inl ⟨by rfl, ?_⟩) (by assumption) ?_
          rotate_left
          · intro w hSw; (try dsimp only at hSw); go_simp; try with_reducible rfl
          (try simp only [Act.put, List.setIfInBounds_toArray, List.set_cons_zero, List.set_cons_succ])
          refine wpAnyH_take (i := 7) (oi := ⟨some 25, _, _, _, _, _⟩) (v := ?_) rfl (by kernel_rfl) (by kernel_rfl) (by kernel_rfl) (fun _ _ _ h => h) (Or.inl ⟨by rfl, ?_⟩) (by assumption) ?_
          rotate_left
          · intro w hSw; (try dsimp only at hSw); go_simp; try with_reducible rfl
          (try simp only [Act.put, List.setIfInBounds_toArray, List.set_cons_zero, List.set_cons_succ])
          refine wpAnyH_take (i := 1) (oi := ⟨some 19, _, _, _, _, _⟩) (v := ?_) rfl (by kernel_rfl) (by kernel_rfl) (by kernel_rfl) (fun _ _ _ h => h) (Or.inl ⟨by rfl, ?_⟩) (by assumption) ?_
          rotate_left
          · intro w hSw; (try dsimp only at hSw); go_simp; try with_reducible rfl
          (try simp only [Act.put, List.setIfInBounds_toArray, List.set_cons_zero, List.set_cons_succ])
          refine wpAnyH_take (i := 8) (oi := ⟨some 26, _, _, _, _, _⟩) (v := ?_) rfl (by kernel_rfl) (by kernel_rfl) (by kernel_rfl) (fun _ _ _ h => h) (Or.inl ⟨by rfl, ?_⟩) (by assumption) ?_
          rotate_left
          · intro w hSw; (try dsimp only at hSw); go_simp; try with_reducible rfl
          (try simp only [Act.put, List.setIfInBounds_toArray, List.set_cons_zero, List.set_cons_succ])
          refine wpAnyH_take (i := 3) (oi := ⟨some 21, _, _, _, _, _⟩) (v := ?_) rfl (by kernel_rfl) (by kernel_rfl) (by kernel_rfl) (fun _ _ _ h => h) (Or.inl ⟨by rfl, ?_⟩) (by assumption) ?_
          rotate_left
          · intro w hSw; (try dsimp only at hSw); go_simp; try with_reducible rfl
          (try simp only [Act.put, List.setIfInBounds_toArray, List.set_cons_zero, List.set_cons_succ])
          refine wpAnyH_take (i := 9) (oi := ⟨some 27, _, _, _, _, _⟩) (v := ?_) rfl (by kernel_rfl) (by kernel_rfl) (by kernel_rfl) (fun _ _ _ h => h) (Or.inl ⟨by rfl, ?_⟩) (by assumption) ?_
          rotate_left
          · intro w hSw; (try dsimp only at hSw); go_simp; try with_reducible rfl
          (try simp only [Act.put, List.setIfInBounds_toArray, List.set_cons_zero, List.set_cons_succ])
          refine wpAnyH_take (i := 4) (oi := ⟨some 22, _, _, _, _, _⟩) (v := ?_) rfl (by kernel_rfl) (by kernel_rfl) (by kernel_rfl) (fun _ _ _ h => h) (Or.inl ⟨by rfl, ?_⟩) (by assumption) ?_
          rotate_left
          · intro w hSw; (try dsimp only at hSw); go_simp; try with_reducible rfl
          (try simp only [Act.put, List.setIfInBounds_toArray, List.set_cons_zero, List.set_cons_succ])
          refine wpAnyH_take (i := 5) (oi := ⟨some 23, _, _, _, _, _⟩) (v := ?_) rfl (by kernel_rfl) (by kernel_rfl) (by kernel_rfl) (fun _ _ _ h => h) (Or.inl ⟨by rfl, ?_⟩) (by assumption) ?_
          rotate_left
          · intro w hSw; (try dsimp only at hSw); go_simp; try with_reducible rfl
          (try simp only [Act.put, List.setIfInBounds_toArray, List.set_cons_zero, List.set_cons_succ])
          refine wpAnyH_take (i := 10) (oi := ⟨some 28, _, _, _, _, _⟩) (v := ?_) rfl (by kernel_rfl) (by kernel_rfl) (by kernel_rfl) (fun _ _ _ h => h) (Or.inl ⟨by rfl, ?_⟩) (by assumption) ?_
          rotate_left
          · intro w hSw; (try dsimp only at hSw); go_simp; try with_reducible rfl
          (try simp only [Act.put, List.setIfInBounds_toArray, List.set_cons_zero, List.set_cons_succ])
          refine wpAnyH_done (by kernel_rfl) ?_ _
          clear hHeld
          go_wp2_with (first | go_big_skip | go_big_guard | fail)
          go_ret
          exact ⟨by rw [HE.out, list_no HX.out HS.out (by simpa using HQ.out)]; rfl, hX.nil⟩
        · have HQ := hid hq
          have hX := hst.drew
          clear hst
          refine wp_region_held_drew (S := (fun w' => (loadVarH 22 ⟨g2, 1, none⟩).run Try.prog w' = .ok (.slice (some ⟨lb, lo, none⟩) nr cr) w' ∧ (loadVarH 9 ⟨lb, lo + j * 44 + 1, none⟩).run Try.prog w' = .ok (.string ⟨x.2.name.toArray⟩) w' ∧ (loadVarH 9 ⟨sb, so + j, none⟩).run Try.prog w' = .ok (.string ⟨s.toArray⟩) w')) (by kernel_rfl) (by exact ⟨ldS [] hX rfl, ldO hX HNX.out, ldO hX HNS.out⟩) (fun hHeld => ?_)
          refine wpAnyH_take (i := 0) (oi := ⟨some 18, _, _, _, _, _⟩) (v := ?_) rfl (by kernel_rfl) (by kernel_rfl) (by kernel_rfl) (fun _ _ _ h => h) (Or.inl ⟨by rfl, ?_⟩) (by assumption) ?_
          rotate_left
          · intro w hSw; (try dsimp only at hSw); go_simp; try with_reducible rfl
          (try simp only [Act.put, List.setIfInBounds_toArray, List.set_cons_zero, List.set_cons_succ])
          refine wpAnyH_take (i := 2) (oi := ⟨some 20, _, _, _, _, _⟩) (v := ?_) rfl (by kernel_rfl) (by kernel_rfl) (by kernel_rfl) (fun _ _ _ h => h) (Or.inl ⟨by rfl, ?_⟩) (by assumption) ?_
          rotate_left
          · intro w hSw; (try dsimp only at hSw); go_simp; try with_reducible rfl
          (try simp only [Act.put, List.setIfInBounds_toArray, List.set_cons_zero, List.set_cons_succ])
          refine wpAnyH_take (i := 6) (oi := ⟨some 24, _, _, _, _, _⟩) (v := ?_) rfl (by kernel_rfl) (by kernel_rfl) (by kernel_rfl) (fun _ _ _ h => h) (Or.inl ⟨by rfl, ?_⟩) (by assumption) ?_
          rotate_left
          · intro w hSw; (try dsimp only at hSw); go_simp; try with_reducible rfl
          (try simp only [Act.put, List.setIfInBounds_toArray, List.set_cons_zero, List.set_cons_succ])
          refine wpAnyH_take (i := 7) (oi := ⟨some 25, _, _, _, _, _⟩) (v := ?_) rfl (by kernel_rfl) (by kernel_rfl) (by kernel_rfl) (fun _ _ _ h => h) (Or.inl ⟨by rfl, ?_⟩) (by assumption) ?_
          rotate_left
          · intro w hSw; (try dsimp only at hSw); go_simp; try with_reducible rfl
          (try simp only [Act.put, List.setIfInBounds_toArray, List.set_cons_zero, List.set_cons_succ])
          refine wpAnyH_take (i := 1) (oi := ⟨some 19, _, _, _, _, _⟩) (v := ?_) rfl (by kernel_rfl) (by kernel_rfl) (by kernel_rfl) (fun _ _ _ h => h) (Or.inl ⟨by rfl, ?_⟩) (by assumption) ?_
          rotate_left
          · intro w hSw; (try dsimp only at hSw); go_simp; try with_reducible rfl
          (try simp only [Act.put, List.setIfInBounds_toArray, List.set_cons_zero, List.set_cons_succ])
          refine wpAnyH_take (i := 8) (oi := ⟨some 26, _, _, _, _, _⟩) (v := ?_) rfl (by kernel_rfl) (by kernel_rfl) (by kernel_rfl) (fun _ _ _ h => h) (Or.inl ⟨by rfl, ?_⟩) (by assumption) ?_
          rotate_left
          · intro w hSw; (try dsimp only at hSw); go_simp; try with_reducible rfl
          (try simp only [Act.put, List.setIfInBounds_toArray, List.set_cons_zero, List.set_cons_succ])
          refine wpAnyH_take (i := 3) (oi := ⟨some 21, _, _, _, _, _⟩) (v := ?_) rfl (by kernel_rfl) (by kernel_rfl) (by kernel_rfl) (fun _ _ _ h => h) (Or.inl ⟨by rfl, ?_⟩) (by assumption) ?_
          rotate_left
          · intro w hSw; (try dsimp only at hSw); go_simp; try with_reducible rfl
          (try simp only [Act.put, List.setIfInBounds_toArray, List.set_cons_zero, List.set_cons_succ])
          refine wpAnyH_take (i := 9) (oi := ⟨some 27, _, _, _, _, _⟩) (v := ?_) rfl (by kernel_rfl) (by kernel_rfl) (by kernel_rfl) (fun _ _ _ h => h) (Or.inl ⟨by rfl, ?_⟩) (by assumption) ?_
          rotate_left
          · intro w hSw; (try dsimp only at hSw); go_simp; try with_reducible rfl
          (try simp only [Act.put, List.setIfInBounds_toArray, List.set_cons_zero, List.set_cons_succ])
          refine wpAnyH_take (i := 4) (oi := ⟨some 22, _, _, _, _, _⟩) (v := ?_) rfl (by kernel_rfl) (by kernel_rfl) (by kernel_rfl) (fun _ _ _ h => h) (Or.inl ⟨by rfl, ?_⟩) (by assumption) ?_
          rotate_left
          · intro w hSw; (try dsimp only at hSw); go_simp; try with_reducible rfl
          (try simp only [Act.put, List.setIfInBounds_toArray, List.set_cons_zero, List.set_cons_succ])
          refine wpAnyH_take (i := 5) (oi := ⟨some 23, _, _, _, _, _⟩) (v := ?_) rfl (by kernel_rfl) (by kernel_rfl) (by kernel_rfl) (fun _ _ _ h => h) (Or.inl ⟨by rfl, ?_⟩) (by assumption) ?_
          rotate_left
          · intro w hSw; (try dsimp only at hSw); go_simp; try with_reducible rfl
          (try simp only [Act.put, List.setIfInBounds_toArray, List.set_cons_zero, List.set_cons_succ])
          refine wpAnyH_take (i := 10) (oi := ⟨some 28, _, _, _, _, _⟩) (v := ?_) rfl (by kernel_rfl) (by kernel_rfl) (by kernel_rfl) (fun _ _ _ h => h) (Or.inl ⟨by rfl, ?_⟩) (by assumption) ?_
          rotate_left
          · intro w hSw; (try dsimp only at hSw); go_simp; try with_reducible rfl
          (try simp only [Act.put, List.setIfInBounds_toArray, List.set_cons_zero, List.set_cons_succ])
          refine wpAnyH_done (by kernel_rfl) ?_ _
          clear hHeld
          go_wp2_with (first | go_big_skip | go_big_guard | fail)
          go_roundw
          case rel => exact ⟨j + 1, by omega, rfl, hX, hid (fun i a b hi ha hb => by
            by_cases e : i = j
            · subst e
              rw [HX.out] at ha; rw [HS.out] at hb
              cases ha; cases hb
              simpa using HQ.out
            · exact HP.out i a b (by omega) ha hb)⟩
          case measure => simp [intOf]; omega
      · have e1 : decide ((j : Int) < (nr : Int)) = false := decide_eq_false (by omega)
        go_wp2_with (first | go_big_skip | go_big_guard | fail)
        go_ret
        exact ⟨by rw [HE.out, list_all (by rw [HNL.out, HK.out]) (fun i a b ha hb => HP.out i a b (by have := (List.getElem?_eq_some_iff.1 ha).1; have := HNL.out; omega) ha hb)]; rfl, hst.nil⟩
  · have d1 : ((nr : Int) != (k : Int)) = true := by rw [bne_iff_ne]; omega
    have HNN := hid hnk
    clear hnk
    go_enter Try.func14, Try.ntmps14
    go_wp2_with (first | go_big_skip | go_big_guard | (refine wl_boxA hst0 rfl rfl rfl ?_; intro g2 w1 hst; clear hst0) | (refine wl_loadE rfl rfl rfl ?_; refine ⟨_, Loads.at [] hst rfl, ?_⟩))
    go_ret
    exact ⟨by rw [HE.out, list_len (by rw [HNL.out, HK.out]; exact HNN.out)]; rfl, hst.nil⟩
end Go.Proofs.Ytifajcblbedcoaa
namespace Go.Proofs.Ytifajcblbedcoaa
set_option linter.unusedVariables false
set_option linter.unusedSimpArgs false
open Go.RowKit Hp
theorem tr_fst {r : TR} {z : Int} (h : (r.1 == z) = true) : r = (z, r.2) := by
  obtain ⟨a, b⟩ := r
  have : a = z := by simpa using h
  rw [this]
def tN : TC := (newR 2).2
theorem tN_eq : newR 2 = (0, tN) := tr_fst (by decide +kernel)
theorem tN_bd : tN.recs.length ≤ 1000000 ∧ tN.lives.length ≤ 1000000 := by decide +kernel
theorem tN_rl : tN.recs.length ≤ 1000 := by decide +kernel
def tA : TC := (opR tN (makeR tN [97] 4 1)).2
theorem tA_eq : opR tN (makeR tN [97] 4 1) = (0, tA) := tr_fst (by decide +kernel)
theorem tA_bd : tA.recs.length ≤ 1000000 ∧ tA.lives.length ≤ 1000000 := by decide +kernel
theorem tA_rl : tA.recs.length ≤ 1000 := by decide +kernel
def tAX : TC := (opR tA (snapT tA [97, 64, 120] 2)).2
theorem tAX_eq : opR tA (snapT tA [97, 64, 120] 2) = (0, tAX) := tr_fst (by decide +kernel)
theorem tAX_bd : tAX.recs.length ≤ 1000000 ∧ tAX.lives.length ≤ 1000000 := by decide +kernel
theorem tAX_rl : tAX.recs.length ≤ 1000 := by decide +kernel
def tS : TC := (opR tAX (cloneT tAX [97, 64, 120] [98] 3)).2
theorem tS_eq : opR tAX (cloneT tAX [97, 64, 120] [98] 3) = (0, tS) := tr_fst (by decide +kernel)
theorem tS_bd : tS.recs.length ≤ 1000000 ∧ tS.lives.length ≤ 1000000 := by decide +kernel
theorem tS_rl : tS.recs.length ≤ 1000 := by decide +kernel
def tD1 : TC := (opR tS (dropT tS [97])).2
theorem tD1_eq : opR tS (dropT tS [97]) = (17, tD1) := tr_fst (by decide +kernel)
theorem tD1_bd : tD1.recs.length ≤ 1000000 ∧ tD1.lives.length ≤ 1000000 := by decide +kernel
theorem tD1_rl : tD1.recs.length ≤ 1000 := by decide +kernel
def tD2 : TC := (opR tS (dropT tS [97, 64, 120])).2
theorem tD2_eq : opR tS (dropT tS [97, 64, 120]) = (17, tD2) := tr_fst (by decide +kernel)
theorem tD2_bd : tD2.recs.length ≤ 1000000 ∧ tD2.lives.length ≤ 1000000 := by decide +kernel
theorem tD2_rl : tD2.recs.length ≤ 1000 := by decide +kernel
def tD3 : TC := (opR tS (dropT tS [98])).2
theorem tD3_eq : opR tS (dropT tS [98]) = (0, tD3) := tr_fst (by decide +kernel)
theorem tD3_bd : tD3.recs.length ≤ 1000000 ∧ tD3.lives.length ≤ 1000000 := by decide +kernel
theorem tD3_rl : tD3.recs.length ≤ 1000 := by decide +kernel
def tD4 : TC := (opR tD3 (dropT tD3 [97, 64, 120])).2
theorem tD4_eq : opR tD3 (dropT tD3 [97, 64, 120]) = (0, tD4) := tr_fst (by decide +kernel)
theorem tD4_bd : tD4.recs.length ≤ 1000000 ∧ tD4.lives.length ≤ 1000000 := by decide +kernel
theorem tD4_rl : tD4.recs.length ≤ 1000 := by decide +kernel
theorem tS_names : (namesOf tS == [[97], [97, 64, 120], [98]]) = true := by decide +kernel
theorem tD4_names : (namesOf tD4 == [[97]]) = true := by decide +kernel
theorem tS_next : tS.next = 4 := by decide +kernel
theorem tS_len : tS.recs.length = 3 := by decide +kernel
def sR0 : RC := tS.recs.getD 0 (volR [] 0 0)
def sR1 : RC := tS.recs.getD 1 (volR [] 0 0)
def sR2 : RC := tS.recs.getD 2 (volR [] 0 0)
theorem tS_recs : tS.recs = [sR0, sR1, sR2] := by
  have h := tS_len
  unfold sR0 sR1 sR2
  generalize tS.recs = l at h ⊢
  match l, h with
  | [a, b, c], _ => rfl
theorem tS_vals : sR0.id = 1 ∧ sR1.own = 1 ∧ sR1.id = 2 ∧ sR2.origin = 2 := by decide +kernel
def tK1 : TC := (opR tS (renameT tS [97] [99])).2
theorem tK1_eq : opR tS (renameT tS [97] [99]) = (0, tK1) := tr_fst (by decide +kernel)
theorem tK1_bd : tK1.recs.length ≤ 1000000 ∧ tK1.lives.length ≤ 1000000 := by decide +kernel
theorem tK1_rl : tK1.recs.length ≤ 1000 := by decide +kernel
def tK2 : TC := (opR tS (renameT tS [97] [98])).2
theorem tK2_eq : opR tS (renameT tS [97] [98]) = (7, tK2) := tr_fst (by decide +kernel)
theorem tK2_bd : tK2.recs.length ≤ 1000000 ∧ tK2.lives.length ≤ 1000000 := by decide +kernel
theorem tK2_rl : tK2.recs.length ≤ 1000 := by decide +kernel
def tK3 : TC := (opR tS (renameT tS [97, 64, 120] [98, 64, 120])).2
theorem tK3_eq : opR tS (renameT tS [97, 64, 120] [98, 64, 120]) = (2, tK3) := tr_fst (by decide +kernel)
theorem tK3_bd : tK3.recs.length ≤ 1000000 ∧ tK3.lives.length ≤ 1000000 := by decide +kernel
theorem tK3_rl : tK3.recs.length ≤ 1000 := by decide +kernel
def tK4 : TC := (opR tS (renameT tS [97] [97])).2
theorem tK4_eq : opR tS (renameT tS [97] [97]) = (7, tK4) := tr_fst (by decide +kernel)
theorem tK4_bd : tK4.recs.length ≤ 1000000 ∧ tK4.lives.length ≤ 1000000 := by decide +kernel
theorem tK4_rl : tK4.recs.length ≤ 1000 := by decide +kernel
def tK5 : TC := (opR tS (resizeT tS [97, 64, 120] 5)).2
theorem tK5_eq : opR tS (resizeT tS [97, 64, 120] 5) = (18, tK5) := tr_fst (by decide +kernel)
theorem tK5_bd : tK5.recs.length ≤ 1000000 ∧ tK5.lives.length ≤ 1000000 := by decide +kernel
theorem tK5_rl : tK5.recs.length ≤ 1000 := by decide +kernel
def tK6 : TC := (opR tS (limitT tS [97] 65 0)).2
theorem tK6_eq : opR tS (limitT tS [97] 65 0) = (2, tK6) := tr_fst (by decide +kernel)
theorem tK6_bd : tK6.recs.length ≤ 1000000 ∧ tK6.lives.length ≤ 1000000 := by decide +kernel
theorem tK6_rl : tK6.recs.length ≤ 1000 := by decide +kernel
def tK7 : TC := (opR tS (makeR tS [97, 64, 98] 1 1)).2
theorem tK7_eq : opR tS (makeR tS [97, 64, 98] 1 1) = (2, tK7) := tr_fst (by decide +kernel)
theorem tK7_bd : tK7.recs.length ≤ 1000000 ∧ tK7.lives.length ≤ 1000000 := by decide +kernel
theorem tK7_rl : tK7.recs.length ≤ 1000 := by decide +kernel
def tK8 : TC := (opR tS (snapT tS [122, 64, 120] 1)).2
theorem tK8_eq : opR tS (snapT tS [122, 64, 120] 1) = (6, tK8) := tr_fst (by decide +kernel)
theorem tK8_bd : tK8.recs.length ≤ 1000000 ∧ tK8.lives.length ≤ 1000000 := by decide +kernel
theorem tK8_rl : tK8.recs.length ≤ 1000 := by decide +kernel
def tK9 : TC := (opR tS (makeR tS [98] 4 4)).2
theorem tK9_eq : opR tS (makeR tS [98] 4 4) = (7, tK9) := tr_fst (by decide +kernel)
theorem tK9_bd : tK9.recs.length ≤ 1000000 ∧ tK9.lives.length ≤ 1000000 := by decide +kernel
theorem tK9_rl : tK9.recs.length ≤ 1000 := by decide +kernel
def tV : TC := (opR tS (snapT tS [97, 64, 121] 4)).2
theorem tV_eq : opR tS (snapT tS [97, 64, 121] 4) = (0, tV) := tr_fst (by decide +kernel)
theorem tV_bd : tV.recs.length ≤ 1000000 ∧ tV.lives.length ≤ 1000000 := by decide +kernel
theorem tV_rl : tV.recs.length ≤ 1000 := by decide +kernel
def tV1 : TC := (opR tV (rollT tV [97, 64, 120])).2
theorem tV1_eq : opR tV (rollT tV [97, 64, 120]) = (17, tV1) := tr_fst (by decide +kernel)
theorem tV1_bd : tV1.recs.length ≤ 1000000 ∧ tV1.lives.length ≤ 1000000 := by decide +kernel
theorem tV1_rl : tV1.recs.length ≤ 1000 := by decide +kernel
def tV2 : TC := (opR tV (rollT tV [97, 64, 121])).2
theorem tV2_eq : opR tV (rollT tV [97, 64, 121]) = (0, tV2) := tr_fst (by decide +kernel)
theorem tV2_bd : tV2.recs.length ≤ 1000000 ∧ tV2.lives.length ≤ 1000000 := by decide +kernel
theorem tV2_rl : tV2.recs.length ≤ 1000 := by decide +kernel
theorem tK1_names : (namesOf tK1 == [[98], [99], [99, 64, 120]]) = true := by decide +kernel
end Go.Proofs.Ytifajcblbedcoaa
namespace Go.Proofs.Ytifajcblbedcoaa
set_option linter.unusedVariables false
set_option linter.unusedSimpArgs false
open Go.RowKit Hp
attribute [local irreducible] Go.Calls Go.wpList tN tA tAX tS tD1 tD2 tD3 tD4
set_option maxRecDepth 100000
set_option maxHeartbeats 8000000
attribute [local go_sem ↓] heldInt heldInts heldRecs heldRec heldStr heldTab heldPtr heldFn
theorem ow_if {P : Program} {ops : Array Oper} {o : Oper} {a : Act} {w : World} {K : Act → World → Prop} {Q : Exit → Act → World → Prop} {E : Prop} (hw : Region.wanted o (yielded ops a.tmps) = true) (h : wpList P ops (Q0 K Q) [o] a w) : if Region.wanted o (yielded ops a.tmps) = true then o.wp P a w K Q else E := by
  rw [if_pos hw]
  exact ow_of_wl hw h
theorem InP.spot {w0 w : World} {M : List Nat} {B P : List HA} {t : TC} {ar al : Option Addr} {cr cl : Nat} {xs : List (Value × RC)} (h : InP P t ar al cr cl xs) (hst : St w0 M w (B ++ P)) (hn : 0 < xs.length) : ∃ g2, ar = some ⟨g2, 0, none⟩ := by
  obtain ⟨g2, c, e, _⟩ := row_spot hst (List.mem_append_right _ h.rr) hn
  cases e
  exact ⟨g2, rfl⟩
theorem InP.range {w0 w : World} {M : List Nat} {B P : List HA} {t : TC} {g2 : Nat} {al : Option Addr} {cr cl j : Nat} {xs : List (Value × RC)} {x : Value × RC} (h : InP P t (some ⟨g2, 0, none⟩) al cr cl xs) (hst : St w0 M w (B ++ P)) (hx : xs[j]? = some x) : w.rangeAt g2 (j * 44) (cellsR x) := by
  have hlt := (List.getElem?_eq_some_iff.1 hx).1
  obtain ⟨x', b, off, hx', he, _, hr⟩ := RecsIn.at (h.recs hst) hlt
  cases he
  rw [hx] at hx'
  cases hx'
  rwa [Nat.zero_add] at hr
/-- A number within an element. -/
theorem InP.cell {w0 w : World} {M : List Nat} {B P : List HA} {t : TC} {g2 : Nat} {al : Option Addr} {cr cl j d o : Nat} {xs : List (Value × RC)} {x : Value × RC} {v : Value} (h : InP P t (some ⟨g2, 0, none⟩) al cr cl xs) (hst : St w0 M w (B ++ P)) (hx : xs[j]? = some x) (hd : (cellsR x)[d]? = some v) (ho : o = j * 44 + d) : w.cell? ⟨g2, o, none⟩ = some v := by
  subst ho
  exact h.range hst hx d v hd
/-- The chapter's table, told. -/
def SmpPost (w : World) (e : Ending) (w' : World) : Prop := ∃ (a b : Option Addr) (c d : Nat) (P : List HA) (xs : List (Value × RC)), e = .returned (.tuple #[.agg (tabC tS (.slice a xs.length c) (.slice b tS.lives.length d)).toArray, .bool true]) ∧ InP P tS a b c d xs ∧ St w [] w' P
theorem sample13_any (w : World) : Calls Try.prog 12 #[] w (SmpPost w) := by
  obtain ⟨P0, hP0⟩ : ∃ P0 : List HA, P0 = [] := ⟨_, rfl⟩
  have hS0 : St w [] w ([] ++ P0) := by rw [hP0]; exact St.refl w
  clear hP0
  go_enter Try.func12, Try.ntmps12
  go_wp2_with (first | go_big_skip | go_big_guard | (refine wl_alloc hS0 rfl rfl ?_; intro g0 w1 h4; have hS1 : St w [] w1 ([.blk g0 27 (tab0)] ++ P0) := h4; clear h4 hS0) | (go_at_call 6; refine (new13_any 2 _).mono ?_; rw [tN_eq]; intro e9 w9 hret; obtain ⟨a1, b1, c1, d1, P1, xs1, rfl, hin, hsub, h4⟩ := ret_pool (B := [.blk g0 27 (tab0)]) hS1 hret; have hS2 : St w [] w9 ([.blk g0 27 (tab0)] ++ P1) := h4; clear hret h4 hS1; have HT1 := hid hin; clear hin hsub) | (refine wl_alloc hS2 rfl rfl ?_; intro g2 w1 h4; have hS3 : St w [] w1 ([.blk g2 27 (tab0), .blk g0 27 (tab0)] ++ P1) := h4; clear h4 hS2) | (refine wl_storeA [] hS3 rfl rfl rfl rfl (vs := tabC tN (.slice a1 xs1.length c1) (.slice b1 tN.lives.length d1)) rfl rfl rfl ?_; intro w1 h4; have hS4 : St w [] w1 ([.blk g2 27 (tabC tN (.slice a1 xs1.length c1) (.slice b1 tN.lives.length d1)), .blk g0 27 (tab0)] ++ P1) := h4; clear h4 hS3) | (refine wl_loadE rfl rfl rfl ?_; refine ⟨_, Loads.atA (tabC tN (.slice a1 xs1.length c1) (.slice b1 tN.lives.length d1)) [] hS4 rfl rfl, ?_⟩) | (go_at_call 7; refine (make13_any tN a1 b1 xs1.length c1 tN.lives.length d1 xs1 _ (HT1.out.tab hS4 tN_bd) [97] 4 1 (by decide)).mono ?_; rw [tA_eq]; intro e9 w9 hret; obtain ⟨a2, b2, c2, d2, P2, xs2, rfl, hin, hsub, h4⟩ := ret_pool (B := [.blk g2 27 (tabC tN (.slice a1 xs1.length c1) (.slice b1 tN.lives.length d1)), .blk g0 27 (tab0)]) hS4 hret; have hS5 : St w [] w9 ([.blk g2 27 (tabC tN (.slice a1 xs1.length c1) (.slice b1 tN.lives.length d1)), .blk g0 27 (tab0)] ++ P2) := h4; clear hret h4 hS4; replace HT1 := hid (HT1.out.mono hsub); have HT2 := hid hin; clear hin hsub) | (refine wl_storeA [] hS5 rfl rfl rfl rfl (vs := tabC tA (.slice a2 xs2.length c2) (.slice b2 tA.lives.length d2)) rfl rfl rfl ?_; intro w1 h4; have hS6 : St w [] w1 ([.blk g2 27 (tabC tA (.slice a2 xs2.length c2) (.slice b2 tA.lives.length d2)), .blk g0 27 (tab0)] ++ P2) := h4; clear h4 hS5) | (refine wl_loadE rfl rfl rfl ?_; refine ⟨_, Loads.atA (tabC tA (.slice a2 xs2.length c2) (.slice b2 tA.lives.length d2)) [] hS6 rfl rfl, ?_⟩) | (go_at_call 17; refine (snap13_any tA a2 b2 xs2.length c2 tA.lives.length d2 xs2 _ (HT2.out.tab hS6 tA_bd) [97, 64, 120] 2 (by decide)).mono ?_; rw [tAX_eq]; intro e9 w9 hret; obtain ⟨a3, b3, c3, d3, P3, xs3, rfl, hin, hsub, h4⟩ := ret_pool (B := [.blk g2 27 (tabC tA (.slice a2 xs2.length c2) (.slice b2 tA.lives.length d2)), .blk g0 27 (tab0)]) hS6 hret; have hS7 : St w [] w9 ([.blk g2 27 (tabC tA (.slice a2 xs2.length c2) (.slice b2 tA.lives.length d2)), .blk g0 27 (tab0)] ++ P3) := h4; clear hret h4 hS6; replace HT1 := hid (HT1.out.mono hsub); replace HT2 := hid (HT2.out.mono hsub); have HT3 := hid hin; clear hin hsub) | (refine wl_storeA [] hS7 rfl rfl rfl rfl (vs := tabC tAX (.slice a3 xs3.length c3) (.slice b3 tAX.lives.length d3)) rfl rfl rfl ?_; intro w1 h4; have hS8 : St w [] w1 ([.blk g2 27 (tabC tAX (.slice a3 xs3.length c3) (.slice b3 tAX.lives.length d3)), .blk g0 27 (tab0)] ++ P3) := h4; clear h4 hS7) | (refine wl_loadE rfl rfl rfl ?_; refine ⟨_, Loads.atA (tabC tAX (.slice a3 xs3.length c3) (.slice b3 tAX.lives.length d3)) [] hS8 rfl rfl, ?_⟩) | (go_at_call 20; refine (clone13_any tAX a3 b3 xs3.length c3 tAX.lives.length d3 xs3 _ (HT3.out.tab hS8 tAX_bd) [97, 64, 120] [98] 3 (by decide) (by decide)).mono ?_; rw [tS_eq]; intro e9 w9 hret; obtain ⟨a4, b4, c4, d4, P4, xs4, rfl, hin, hsub, h4⟩ := ret_pool (B := [.blk g2 27 (tabC tAX (.slice a3 xs3.length c3) (.slice b3 tAX.lives.length d3)), .blk g0 27 (tab0)]) hS8 hret; have hS9 : St w [] w9 ([.blk g2 27 (tabC tAX (.slice a3 xs3.length c3) (.slice b3 tAX.lives.length d3)), .blk g0 27 (tab0)] ++ P4) := h4; clear hret h4 hS8; replace HT1 := hid (HT1.out.mono hsub); replace HT2 := hid (HT2.out.mono hsub); replace HT3 := hid (HT3.out.mono hsub); have HT4 := hid hin; clear hin hsub) | (refine wl_storeA [] hS9 rfl rfl rfl rfl (vs := tabC tS (.slice a4 xs4.length c4) (.slice b4 tS.lives.length d4)) rfl rfl rfl ?_; intro w1 h4; have hS10 : St w [] w1 ([.blk g2 27 (tabC tS (.slice a4 xs4.length c4) (.slice b4 tS.lives.length d4)), .blk g0 27 (tab0)] ++ P4) := h4; clear h4 hS9))
  have hX := hS10.drew
  clear hS10
  refine wp_region_held_drew (S := (fun w' => (loadVarH 27 ⟨g2, 0, none⟩).run Try.prog w' = .ok (.agg (List.toArray (tabC tS (.slice a4 xs4.length c4) (.slice b4 tS.lives.length d4)))) w')) (by kernel_rfl) (by exact ldA (tabC tS (.slice a4 xs4.length c4) (.slice b4 tS.lives.length d4)) [] hX (rfl) (rfl)) (fun hHeld => ?_)
  refine wpAnyH_take (i := 0) (oi := ⟨some 26, _, _, _, _, _⟩) (v := ?_) rfl (by kernel_rfl) (by kernel_rfl) (by kernel_rfl) (fun _ _ _ h => h) (Or.inl ⟨by rfl, ?_⟩) (by assumption) ?_
  rotate_left
  · intro w hSw; (try dsimp only at hSw); go_simp; try with_reducible rfl
  (try simp only [Act.put, List.setIfInBounds_toArray, List.set_cons_zero, List.set_cons_succ])
  refine wpAnyH_take (i := 1) (oi := ⟨some 27, _, _, _, _, _⟩) (v := ?_) rfl (by kernel_rfl) (by kernel_rfl) (by kernel_rfl) (fun _ _ _ h => h) (Or.inl ⟨by rfl, ?_⟩) (by assumption) ?_
  rotate_left
  · intro w hSw; (try dsimp only at hSw); go_simp; try with_reducible rfl
  (try simp only [Act.put, List.setIfInBounds_toArray, List.set_cons_zero, List.set_cons_succ])
  refine wpAnyH_take (i := 2) (oi := ⟨some 28, _, _, _, _, _⟩) (v := ?_) rfl (by kernel_rfl) (by kernel_rfl) (by kernel_rfl) (fun _ _ _ h => h) (Or.inl ⟨by rfl, ?_⟩) (by assumption) ?_
  rotate_left
  · intro w hSw; (try dsimp only at hSw); go_simp; try with_reducible rfl
  (try simp only [Act.put, List.setIfInBounds_toArray, List.set_cons_zero, List.set_cons_succ])
  refine wpAnyH_take (i := 3) (oi := ⟨some 29, _, _, _, _, _⟩) (v := ?_) rfl (by kernel_rfl) (by kernel_rfl) (by kernel_rfl) (fun _ _ _ h => h) (Or.inl ⟨by rfl, ?_⟩) (by assumption) ?_
  rotate_left
  · intro w hSw; (try dsimp only at hSw); go_simp; try with_reducible rfl
  (try simp only [Act.put, List.setIfInBounds_toArray, List.set_cons_zero, List.set_cons_succ])
  refine wpAnyH_take (i := 4) (oi := ⟨some 30, _, _, _, _, _⟩) (v := ?_) rfl (by kernel_rfl) (by kernel_rfl) (by kernel_rfl) (fun _ _ _ h => h) (Or.inl ⟨by rfl, ?_⟩) (by assumption) ?_
  rotate_left
  · intro w hSw; (try dsimp only at hSw); go_simp; try with_reducible rfl
  (try simp only [Act.put, List.setIfInBounds_toArray, List.set_cons_zero, List.set_cons_succ])
  refine wpAnyH_take (i := 5) (oi := ⟨some 31, _, _, _, _, _⟩) (v := ?_) rfl (by kernel_rfl) (by kernel_rfl) (by kernel_rfl) (fun _ _ _ h => h) (Or.inl ⟨by rfl, ?_⟩) (by assumption) ?_
  rotate_left
  · intro w hSw; (try dsimp only at hSw); go_simp; try with_reducible rfl
  (try simp only [Act.put, List.setIfInBounds_toArray, List.set_cons_zero, List.set_cons_succ])
  refine wpAnyH_take (i := 6) (oi := ⟨some 32, _, _, _, _, _⟩) (v := ?_) rfl (by kernel_rfl) (by kernel_rfl) (by kernel_rfl) (fun _ _ _ h => h) (Or.inl ⟨by rfl, ?_⟩) (by assumption) ?_
  rotate_left
  · intro w hSw; (try dsimp only at hSw); go_simp; try with_reducible rfl
  (try simp only [Act.put, List.setIfInBounds_toArray, List.set_cons_zero, List.set_cons_succ])
  refine wpAnyH_take (i := 7) (oi := ⟨some 33, _, _, _, _, _⟩) (v := ?_) rfl (by kernel_rfl) (by kernel_rfl) (by kernel_rfl) (fun _ _ _ h => h) (Or.inl ⟨by rfl, ?_⟩) (by assumption) ?_
  rotate_left
  · intro w hSw; (try dsimp only at hSw); go_simp; try with_reducible rfl
  (try simp only [Act.put, List.setIfInBounds_toArray, List.set_cons_zero, List.set_cons_succ])
  refine wpAnyH_take (i := 8) (oi := ⟨some 34, _, _, _, _, _⟩) (v := ?_) rfl (by kernel_rfl) (by kernel_rfl) (by kernel_rfl) (fun _ _ _ h => h) (Or.inl ⟨by rfl, ?_⟩) (by assumption) ?_
  rotate_left
  · intro w hSw; (try dsimp only at hSw); go_simp; try with_reducible rfl
  (try simp only [Act.put, List.setIfInBounds_toArray, List.set_cons_zero, List.set_cons_succ])
  refine wpAnyH_take (i := 9) (oi := ⟨some 35, _, _, _, _, _⟩) (v := ?_) rfl (by kernel_rfl) (by kernel_rfl) (by kernel_rfl) (fun _ _ _ h => h) (Or.inl ⟨by rfl, ?_⟩) (by assumption) ?_
  rotate_left
  · intro w hSw; (try dsimp only at hSw); go_simp; try with_reducible rfl
  (try simp only [Act.put, List.setIfInBounds_toArray, List.set_cons_zero, List.set_cons_succ])
  refine wpAnyH_take (i := 10) (oi := ⟨some 36, _, _, _, _, _⟩) (v := ?_) rfl (by kernel_rfl) (by kernel_rfl) (by kernel_rfl) (fun _ _ _ h => h) (Or.inl ⟨by rfl, ?_⟩) (by assumption) ?_
  rotate_left
  · intro w hSw; (try dsimp only at hSw); go_simp; try with_reducible rfl
  (try simp only [Act.put, List.setIfInBounds_toArray, List.set_cons_zero, List.set_cons_succ])
  refine wpAnyH_take (i := 11) (oi := ⟨some 37, _, _, _, _, _⟩) (v := ?_) rfl (by kernel_rfl) (by kernel_rfl) (by kernel_rfl) (fun _ _ _ h => h) (Or.inl ⟨by rfl, ?_⟩) (by assumption) ?_
  rotate_left
  · intro w hSw; (try dsimp only at hSw); go_simp; try with_reducible rfl
  (try simp only [Act.put, List.setIfInBounds_toArray, List.set_cons_zero, List.set_cons_succ])
  refine wpAnyH_take (i := 12) (oi := ⟨some 38, _, _, _, _, _⟩) (v := ?_) rfl (by kernel_rfl) (by kernel_rfl) (by kernel_rfl) (fun _ _ _ h => h) (Or.inl ⟨by rfl, ?_⟩) (by assumption) ?_
  rotate_left
  · intro w hSw; (try dsimp only at hSw); go_simp; try with_reducible rfl
  (try simp only [Act.put, List.setIfInBounds_toArray, List.set_cons_zero, List.set_cons_succ])
  refine wpAnyH_take (i := 13) (oi := ⟨some 39, _, _, _, _, _⟩) (v := ?_) rfl (by kernel_rfl) (by kernel_rfl) (by kernel_rfl) (fun _ _ _ h => h) (Or.inl ⟨by rfl, ?_⟩) (by assumption) ?_
  rotate_left
  · intro w hSw; (try dsimp only at hSw); go_simp; try with_reducible rfl
  (try simp only [Act.put, List.setIfInBounds_toArray, List.set_cons_zero, List.set_cons_succ])
  refine wpAnyH_take (i := 14) (oi := ⟨some 40, _, _, _, _, _⟩) (v := ?_) rfl (by kernel_rfl) (by kernel_rfl) (by kernel_rfl) (fun _ _ _ h => h) (Or.inl ⟨by rfl, ?_⟩) (by assumption) ?_
  rotate_left
  · intro w hSw; (try dsimp only at hSw); go_simp; try with_reducible rfl
  (try simp only [Act.put, List.setIfInBounds_toArray, List.set_cons_zero, List.set_cons_succ])
  refine wpAnyH_take (i := 15) (oi := ⟨some 41, _, _, _, _, _⟩) (v := ?_) rfl (by kernel_rfl) (by kernel_rfl) (by kernel_rfl) (fun _ _ _ h => h) (Or.inl ⟨by rfl, ?_⟩) (by assumption) ?_
  rotate_left
  · intro w hSw; (try dsimp only at hSw); go_simp; try with_reducible rfl
  (try simp only [Act.put, List.setIfInBounds_toArray, List.set_cons_zero, List.set_cons_succ])
  refine wpAnyH_take (i := 16) (oi := ⟨some 42, _, _, _, _, _⟩) (v := ?_) rfl (by kernel_rfl) (by kernel_rfl) (by kernel_rfl) (fun _ _ _ h => h) (Or.inl ⟨by rfl, ?_⟩) (by assumption) ?_
  rotate_left
  · intro w hSw; (try dsimp only at hSw); go_simp; try with_reducible rfl
  (try simp only [Act.put, List.setIfInBounds_toArray, List.set_cons_zero, List.set_cons_succ])
  refine wpAnyH_ready (rs := [17]) (by kernel_rfl) (by simp) ?_
  refine (AllReadyH.cons (o := ⟨some 43, _, _, _, _, _⟩) rfl (fun K hK => ?_) AllReadyH.nil)
  refine ow_if (by rfl) ?_
  apply wl_bsX [.string ⟨([97] : List UInt8).toArray⟩, .string ⟨([97, 64, 120] : List UInt8).toArray⟩, .string ⟨([98] : List UInt8).toArray⟩] [.string ⟨([97] : List UInt8).toArray⟩, .string ⟨([97, 64, 120] : List UInt8).toArray⟩, .string ⟨([98] : List UInt8).toArray⟩] hX
  · rfl
  · rfl
  · exact rfl
  · exact rfl
  · infer_instance
  · infer_instance
  · rfl
  · rfl
  · rfl
  intro gw w5 h4
  have hW1 : St w [] w5 ([.blk gw 9 [.string ⟨([97] : List UInt8).toArray⟩, .string ⟨([97, 64, 120] : List UInt8).toArray⟩, .string ⟨([98] : List UInt8).toArray⟩], .blk g2 27 (tabC tS (.slice a4 xs4.length c4) (.slice b4 tS.lives.length d4)), .blk g0 27 tab0] ++ P4) := h4
  clear h4
  refine q0_nil ?_
  refine hK.out _ _ ?_ (fun hHeld => ?_)
  · exact ldA (tabC tS (.slice a4 xs4.length c4) (.slice b4 tS.lives.length d4)) [_] hW1 (rfl) (rfl)
  clear hK K
  (try simp only [Act.put, List.setIfInBounds_toArray, List.set_cons_zero, List.set_cons_succ])
  refine wpAnyH_ready (rs := [18]) (by kernel_rfl) (by simp) ?_
  refine (AllReadyH.cons (o := ⟨some 44, _, _, _, _, _⟩) rfl (fun K hK => ?_) AllReadyH.nil)
  rw [if_pos (by rfl)]
  go_simp
  go_at_call 14
  refine (names13_any tS a4 xs4.length c4 _ xs4 _ 3 3 [[97], [97, 64, 120], [98]] _ (HT4.out.recs hW1) HT4.out.ok.eq (by rw [HT4.out.ok.len]; exact tS_rl) (Rd.blk hW1 (.head _) (Nat.le_refl _) (by decide) rfl rfl) rfl (by decide)).mono ?_
  rw [tS_names]
  rintro _ w6 ⟨rfl, h4⟩
  have hW2 : St w [] w6 ([.blk gw 9 [.string ⟨([97] : List UInt8).toArray⟩, .string ⟨([97, 64, 120] : List UInt8).toArray⟩, .string ⟨([98] : List UInt8).toArray⟩], .blk g2 27 (tabC tS (.slice a4 xs4.length c4) (.slice b4 tS.lives.length d4)), .blk g0 27 tab0] ++ P4) := St.call0 hW1 h4
  clear h4
  refine hK.out _ _ ?_ (fun hHeld => ?_)
  · exact ldA (tabC tS (.slice a4 xs4.length c4) (.slice b4 tS.lives.length d4)) [_] hW2 (rfl) (rfl)
  clear hK K
  (try simp only [Act.put, List.setIfInBounds_toArray, List.set_cons_zero, List.set_cons_succ])
  refine wpAnyH_take (i := 19) (oi := ⟨some 45, _, _, _, _, _⟩) (v := ?_) rfl (by kernel_rfl) (by kernel_rfl) (by kernel_rfl) (fun _ _ _ h => h) (Or.inl ⟨by rfl, ?_⟩) (by assumption) ?_
  rotate_left
  · intro w hSw; (try dsimp only at hSw); go_simp; try with_reducible rfl
  (try simp only [Act.put, List.setIfInBounds_toArray, List.set_cons_zero, List.set_cons_succ])
  refine wpAnyH_ready (rs := [20]) (by kernel_rfl) (by simp) ?_
  refine (AllReadyH.cons (o := ⟨none, _, _, _, _, _⟩) rfl (fun K hK => ?_) AllReadyH.nil)
  refine ow_if (by rfl) ?_
  refine wl_storeA [_, _] hW2 rfl rfl rfl rfl (vs := tabC tS (.slice a4 xs4.length c4) (.slice b4 tS.lives.length d4)) rfl rfl rfl ?_
  intro w7 hW3
  refine q0_nil ?_
  refine hK.out _ _ ?_ (fun hHeld => ?_)
  · exact ldA (tabC tS (.slice a4 xs4.length c4) (.slice b4 tS.lives.length d4)) [_] hW3 (rfl) (rfl)
  clear hK K
  (try simp only [Act.put, List.setIfInBounds_toArray, List.set_cons_zero, List.set_cons_succ])
  refine wpAnyH_take (i := 21) (oi := ⟨some 1, _, _, _, _, _⟩) (v := ?_) rfl (by kernel_rfl) (by kernel_rfl) (by kernel_rfl) (fun _ _ _ h => h) (Or.inl ⟨by rfl, ?_⟩) (by assumption) ?_
  rotate_left
  · intro w hSw; (try dsimp only at hSw); go_simp; try with_reducible rfl
  (try simp only [Act.put, List.setIfInBounds_toArray, List.set_cons_zero, List.set_cons_succ])
  refine wpAnyH_done (by kernel_rfl) ?_ _
  clear hHeld
  go_wp2_with (first | go_big_skip | go_big_guard | fail)
  have hl := Loads.atA (P := Try.prog) (off := 0) (T := 27) (tabC tS (.slice a4 xs4.length c4) (.slice b4 tS.lives.length d4)) [_, _] hW3 rfl rfl
  refine bodyPost_ret (results_cellR rfl rfl rfl hl) rfl ?_
  exact ⟨_, _, _, _, _, _, rfl, HT4.out, St.sub hW3 (.cons _ (.cons _ (.cons _ (List.Sublist.refl _))))⟩
theorem smp_parts {w0 w : World} {M : List Nat} {B P : List HA} {ar al : Option Addr} {cr cl : Nat} {xs : List (Value × RC)} (h : InP P tS ar al cr cl xs) (hst : St w0 M w (B ++ P)) :
    xs.length = 3 ∧ (∃ g9, ar = some ⟨g9, 0, none⟩) ∧ (∃ v : Value, xs[0]? = some (v, sR0)) ∧ (∃ v : Value, xs[1]? = some (v, sR1)) ∧ (∃ v : Value, xs[2]? = some (v, sR2)) := by
  have hl : xs.length = 3 := by rw [h.ok.len, tS_len]
  have key : ∀ (j : Nat) (r : RC), tS.recs[j]? = some r → ∃ v : Value, xs[j]? = some (v, r) := fun j r hr => by
    obtain ⟨x, hx, he⟩ := okx_at h.ok hr
    subst he
    exact ⟨x.1, hx⟩
  exact ⟨hl, h.spot hst (by omega), key 0 sR0 (by rw [tS_recs]; rfl), key 1 sR1 (by rw [tS_recs]; rfl), key 2 sR2 (by rw [tS_recs]; rfl)⟩
attribute [local irreducible] sR0 sR1 sR2
theorem awake13_any (w : World) : Calls Try.prog 11 #[] w fun e w' => e = .returned (.bool true) ∧ St w [] w' [] := by
  obtain ⟨P0, hP0⟩ : ∃ P0 : List HA, P0 = [] := ⟨_, rfl⟩
  have hS0 : St w [] w ([] ++ P0) := by rw [hP0]; exact St.refl w
  clear hP0
  have hn4 := tS_next
  obtain ⟨v1, v2, v3, v4⟩ := tS_vals
  go_enter Try.func11, Try.ntmps11
  go_wp2_with (first | go_big_skip | go_big_guard | (go_at_call 12; refine (sample13_any _).mono ?_; intro e9 w9 hret; obtain ⟨a0, b0, c0, d0, P1, xs0, rfl, hin, h4⟩ := hret; have hS1 : St w [] w9 ([] ++ P1) := St.sub (St.call hS0 h4) (List.sublist_append_left _ _); have HT0 := hid hin; clear h4 hin hS0; obtain ⟨hn3, ⟨g9, hg9⟩, ⟨x0, hx0⟩, ⟨x1, hx1⟩, ⟨x2, hx2⟩⟩ := smp_parts HT0.out hS1; subst hg9; have HX0 := hid hx0; have HX1 := hid hx1; have HX2 := hid hx2; have HL1 := hid (HT0.out.ok.ok _ (List.mem_of_getElem? hx1)).1; have HL2 := hid (HT0.out.ok.ok _ (List.mem_of_getElem? hx2)).1; have HN3 := hid hn3; clear hx0 hx1 hx2 hn3) | (refine wl_alloc hS1 rfl rfl ?_; intro g1 w1 h4; have hS2 : St w [] w1 ([.blk g1 27 (tab0)] ++ P1) := h4; clear h4 hS1) | (refine wl_storeA [] hS2 rfl rfl rfl rfl (vs := tabC tS (.slice (some ⟨g9, 0, none⟩) xs0.length c0) (.slice b0 tS.lives.length d0)) rfl rfl rfl ?_; intro w1 h4; have hS3 : St w [] w1 ([.blk g1 27 (tabC tS (.slice (some ⟨g9, 0, none⟩) xs0.length c0) (.slice b0 tS.lives.length d0))] ++ P1) := h4; clear h4 hS2) | (refine wl_loadE rfl rfl rfl ?_; first | refine ⟨.int .i64 tS.next, Loads.at [] hS3 rfl, ?_⟩ | refine ⟨_, Loads.at [] hS3 rfl, ?_⟩ | refine ⟨.int .i64 sR0.id, Loads.cell (inferInstance : TyS Try.prog 3).out (HT0.out.cell hS3 HX0.out (d := 0) (rfl) (by decide)), ?_⟩ | refine ⟨.int .i64 sR1.own, Loads.cell (inferInstance : TyS Try.prog 3).out (HT0.out.cell hS3 HX1.out (d := 40) (cellsR_40 HL1.out) (by decide)), ?_⟩ | refine ⟨.int .i64 sR1.id, Loads.cell (inferInstance : TyS Try.prog 3).out (HT0.out.cell hS3 HX1.out (d := 0) (rfl) (by decide)), ?_⟩ | refine ⟨.int .i64 sR2.origin, Loads.cell (inferInstance : TyS Try.prog 3).out (HT0.out.cell hS3 HX2.out (d := 41) (cellsR_41 HL2.out) (by decide)), ?_⟩) | (refine wl_index (k := 0) rfl rfl rfl rfl (by have := HN3.out; omega) ?_) | (refine wl_index (k := 1) rfl rfl rfl rfl (by have := HN3.out; omega) ?_) | (refine wl_index (k := 2) rfl rfl rfl rfl (by have := HN3.out; omega) ?_) | (refine wl_loadE rfl rfl rfl ?_; refine ⟨_, Loads.atA (tabC tS (.slice (some ⟨g9, 0, none⟩) xs0.length c0) (.slice b0 tS.lives.length d0)) [] hS3 rfl rfl, ?_⟩) | (go_at_call 10; refine (drop13_any tS (some ⟨g9, 0, none⟩) b0 xs0.length c0 tS.lives.length d0 xs0 _ (HT0.out.tab hS3 tS_bd) [97] (by decide)).mono ?_; rw [tD1_eq]; intro e9 w9 hret; obtain ⟨a1, b1, c1, d1, P2, xs1, rfl, hin, hsub, h4⟩ := ret_pool (B := [.blk g1 27 (tabC tS (.slice (some ⟨g9, 0, none⟩) xs0.length c0) (.slice b0 tS.lives.length d0))]) hS3 hret; have hS4 : St w [] w9 ([.blk g1 27 (tabC tS (.slice (some ⟨g9, 0, none⟩) xs0.length c0) (.slice b0 tS.lives.length d0))] ++ P2) := h4; clear hret h4 hS3; replace HT0 := hid (HT0.out.mono hsub); have HT1 := hid hin; clear hin hsub) | (refine wl_alloc hS4 rfl rfl ?_; intro g3 w1 h4; have hS5 : St w [] w1 ([.blk g3 27 (tab0), .blk g1 27 (tabC tS (.slice (some ⟨g9, 0, none⟩) xs0.length c0) (.slice b0 tS.lives.length d0))] ++ P2) := h4; clear h4 hS4) | (refine wl_storeA [] hS5 rfl rfl rfl rfl (vs := tabC tD1 (.slice a1 xs1.length c1) (.slice b1 tD1.lives.length d1)) rfl rfl rfl ?_; intro w1 h4; have hS6 : St w [] w1 ([.blk g3 27 (tabC tD1 (.slice a1 xs1.length c1) (.slice b1 tD1.lives.length d1)), .blk g1 27 (tabC tS (.slice (some ⟨g9, 0, none⟩) xs0.length c0) (.slice b0 tS.lives.length d0))] ++ P2) := h4; clear h4 hS5) | (refine wl_loadE rfl rfl rfl ?_; refine ⟨_, Loads.atA (tabC tS (.slice (some ⟨g9, 0, none⟩) xs0.length c0) (.slice b0 tS.lives.length d0)) [_] hS6 rfl rfl, ?_⟩) | (go_at_call 10; refine (drop13_any tS (some ⟨g9, 0, none⟩) b0 xs0.length c0 tS.lives.length d0 xs0 _ (HT0.out.tab hS6 tS_bd) [97, 64, 120] (by decide)).mono ?_; rw [tD2_eq]; intro e9 w9 hret; obtain ⟨a2, b2, c2, d2, P3, xs2, rfl, hin, hsub, h4⟩ := ret_pool (B := [.blk g3 27 (tabC tD1 (.slice a1 xs1.length c1) (.slice b1 tD1.lives.length d1)), .blk g1 27 (tabC tS (.slice (some ⟨g9, 0, none⟩) xs0.length c0) (.slice b0 tS.lives.length d0))]) hS6 hret; have hS7 : St w [] w9 ([.blk g3 27 (tabC tD1 (.slice a1 xs1.length c1) (.slice b1 tD1.lives.length d1)), .blk g1 27 (tabC tS (.slice (some ⟨g9, 0, none⟩) xs0.length c0) (.slice b0 tS.lives.length d0))] ++ P3) := h4; clear hret h4 hS6; replace HT0 := hid (HT0.out.mono hsub); replace HT1 := hid (HT1.out.mono hsub); have HT2 := hid hin; clear hin hsub) | (refine wl_alloc hS7 rfl rfl ?_; intro g5 w1 h4; have hS8 : St w [] w1 ([.blk g5 27 (tab0), .blk g3 27 (tabC tD1 (.slice a1 xs1.length c1) (.slice b1 tD1.lives.length d1)), .blk g1 27 (tabC tS (.slice (some ⟨g9, 0, none⟩) xs0.length c0) (.slice b0 tS.lives.length d0))] ++ P3) := h4; clear h4 hS7) | (refine wl_storeA [] hS8 rfl rfl rfl rfl (vs := tabC tD2 (.slice a2 xs2.length c2) (.slice b2 tD2.lives.length d2)) rfl rfl rfl ?_; intro w1 h4; have hS9 : St w [] w1 ([.blk g5 27 (tabC tD2 (.slice a2 xs2.length c2) (.slice b2 tD2.lives.length d2)), .blk g3 27 (tabC tD1 (.slice a1 xs1.length c1) (.slice b1 tD1.lives.length d1)), .blk g1 27 (tabC tS (.slice (some ⟨g9, 0, none⟩) xs0.length c0) (.slice b0 tS.lives.length d0))] ++ P3) := h4; clear h4 hS8) | (refine wl_loadE rfl rfl rfl ?_; refine ⟨_, Loads.atA (tabC tS (.slice (some ⟨g9, 0, none⟩) xs0.length c0) (.slice b0 tS.lives.length d0)) [_, _] hS9 rfl rfl, ?_⟩) | (go_at_call 10; refine (drop13_any tS (some ⟨g9, 0, none⟩) b0 xs0.length c0 tS.lives.length d0 xs0 _ (HT0.out.tab hS9 tS_bd) [98] (by decide)).mono ?_; rw [tD3_eq]; intro e9 w9 hret; obtain ⟨a3, b3, c3, d3, P4, xs3, rfl, hin, hsub, h4⟩ := ret_pool (B := [.blk g5 27 (tabC tD2 (.slice a2 xs2.length c2) (.slice b2 tD2.lives.length d2)), .blk g3 27 (tabC tD1 (.slice a1 xs1.length c1) (.slice b1 tD1.lives.length d1)), .blk g1 27 (tabC tS (.slice (some ⟨g9, 0, none⟩) xs0.length c0) (.slice b0 tS.lives.length d0))]) hS9 hret; have hS10 : St w [] w9 ([.blk g5 27 (tabC tD2 (.slice a2 xs2.length c2) (.slice b2 tD2.lives.length d2)), .blk g3 27 (tabC tD1 (.slice a1 xs1.length c1) (.slice b1 tD1.lives.length d1)), .blk g1 27 (tabC tS (.slice (some ⟨g9, 0, none⟩) xs0.length c0) (.slice b0 tS.lives.length d0))] ++ P4) := h4; clear hret h4 hS9; replace HT0 := hid (HT0.out.mono hsub); replace HT1 := hid (HT1.out.mono hsub); replace HT2 := hid (HT2.out.mono hsub); have HT3 := hid hin; clear hin hsub) | (refine wl_alloc hS10 rfl rfl ?_; intro g7 w1 h4; have hS11 : St w [] w1 ([.blk g7 27 (tab0), .blk g5 27 (tabC tD2 (.slice a2 xs2.length c2) (.slice b2 tD2.lives.length d2)), .blk g3 27 (tabC tD1 (.slice a1 xs1.length c1) (.slice b1 tD1.lives.length d1)), .blk g1 27 (tabC tS (.slice (some ⟨g9, 0, none⟩) xs0.length c0) (.slice b0 tS.lives.length d0))] ++ P4) := h4; clear h4 hS10) | (refine wl_storeA [] hS11 rfl rfl rfl rfl (vs := tabC tD3 (.slice a3 xs3.length c3) (.slice b3 tD3.lives.length d3)) rfl rfl rfl ?_; intro w1 h4; have hS12 : St w [] w1 ([.blk g7 27 (tabC tD3 (.slice a3 xs3.length c3) (.slice b3 tD3.lives.length d3)), .blk g5 27 (tabC tD2 (.slice a2 xs2.length c2) (.slice b2 tD2.lives.length d2)), .blk g3 27 (tabC tD1 (.slice a1 xs1.length c1) (.slice b1 tD1.lives.length d1)), .blk g1 27 (tabC tS (.slice (some ⟨g9, 0, none⟩) xs0.length c0) (.slice b0 tS.lives.length d0))] ++ P4) := h4; clear h4 hS11) | (refine wl_loadE rfl rfl rfl ?_; refine ⟨_, Loads.atA (tabC tD3 (.slice a3 xs3.length c3) (.slice b3 tD3.lives.length d3)) [] hS12 rfl rfl, ?_⟩) | (go_at_call 10; refine (drop13_any tD3 a3 b3 xs3.length c3 tD3.lives.length d3 xs3 _ (HT3.out.tab hS12 tD3_bd) [97, 64, 120] (by decide)).mono ?_; rw [tD4_eq]; intro e9 w9 hret; obtain ⟨a4, b4, c4, d4, P5, xs4, rfl, hin, hsub, h4⟩ := ret_pool (B := [.blk g7 27 (tabC tD3 (.slice a3 xs3.length c3) (.slice b3 tD3.lives.length d3)), .blk g5 27 (tabC tD2 (.slice a2 xs2.length c2) (.slice b2 tD2.lives.length d2)), .blk g3 27 (tabC tD1 (.slice a1 xs1.length c1) (.slice b1 tD1.lives.length d1)), .blk g1 27 (tabC tS (.slice (some ⟨g9, 0, none⟩) xs0.length c0) (.slice b0 tS.lives.length d0))]) hS12 hret; have hS13 : St w [] w9 ([.blk g7 27 (tabC tD3 (.slice a3 xs3.length c3) (.slice b3 tD3.lives.length d3)), .blk g5 27 (tabC tD2 (.slice a2 xs2.length c2) (.slice b2 tD2.lives.length d2)), .blk g3 27 (tabC tD1 (.slice a1 xs1.length c1) (.slice b1 tD1.lives.length d1)), .blk g1 27 (tabC tS (.slice (some ⟨g9, 0, none⟩) xs0.length c0) (.slice b0 tS.lives.length d0))] ++ P5) := h4; clear hret h4 hS12; replace HT0 := hid (HT0.out.mono hsub); replace HT1 := hid (HT1.out.mono hsub); replace HT2 := hid (HT2.out.mono hsub); replace HT3 := hid (HT3.out.mono hsub); have HT4 := hid hin; clear hin hsub) | (refine wl_alloc hS13 rfl rfl ?_; intro g8 w1 h4; have hS14 : St w [] w1 ([.blk g8 27 (tab0), .blk g7 27 (tabC tD3 (.slice a3 xs3.length c3) (.slice b3 tD3.lives.length d3)), .blk g5 27 (tabC tD2 (.slice a2 xs2.length c2) (.slice b2 tD2.lives.length d2)), .blk g3 27 (tabC tD1 (.slice a1 xs1.length c1) (.slice b1 tD1.lives.length d1)), .blk g1 27 (tabC tS (.slice (some ⟨g9, 0, none⟩) xs0.length c0) (.slice b0 tS.lives.length d0))] ++ P5) := h4; clear h4 hS13) | (refine wl_storeA [] hS14 rfl rfl rfl rfl (vs := tabC tD4 (.slice a4 xs4.length c4) (.slice b4 tD4.lives.length d4)) rfl rfl rfl ?_; intro w1 h4; have hS15 : St w [] w1 ([.blk g8 27 (tabC tD4 (.slice a4 xs4.length c4) (.slice b4 tD4.lives.length d4)), .blk g7 27 (tabC tD3 (.slice a3 xs3.length c3) (.slice b3 tD3.lives.length d3)), .blk g5 27 (tabC tD2 (.slice a2 xs2.length c2) (.slice b2 tD2.lives.length d2)), .blk g3 27 (tabC tD1 (.slice a1 xs1.length c1) (.slice b1 tD1.lives.length d1)), .blk g1 27 (tabC tS (.slice (some ⟨g9, 0, none⟩) xs0.length c0) (.slice b0 tS.lives.length d0))] ++ P5) := h4; clear h4 hS14) | (refine wl_loadE rfl rfl rfl ?_; refine ⟨_, Loads.atA (tabC tD4 (.slice a4 xs4.length c4) (.slice b4 tD4.lives.length d4)) [] hS15 rfl rfl, ?_⟩) | (apply wl_bsX [.string ⟨([97] : List UInt8).toArray⟩] [.string ⟨([97] : List UInt8).toArray⟩] hS15; rfl; rfl; exact rfl; exact rfl; infer_instance; infer_instance; rfl; rfl; rfl; intro gw w5 h4; have hS16 : St w [] w5 ([.blk gw 9 ([.string ⟨([97] : List UInt8).toArray⟩]), .blk g8 27 (tabC tD4 (.slice a4 xs4.length c4) (.slice b4 tD4.lives.length d4)), .blk g7 27 (tabC tD3 (.slice a3 xs3.length c3) (.slice b3 tD3.lives.length d3)), .blk g5 27 (tabC tD2 (.slice a2 xs2.length c2) (.slice b2 tD2.lives.length d2)), .blk g3 27 (tabC tD1 (.slice a1 xs1.length c1) (.slice b1 tD1.lives.length d1)), .blk g1 27 (tabC tS (.slice (some ⟨g9, 0, none⟩) xs0.length c0) (.slice b0 tS.lives.length d0))] ++ P5) := h4; clear h4 hS15) | (go_at_call 14; refine (names13_any tD4 a4 xs4.length c4 _ xs4 _ 1 1 [[97]] _ (HT4.out.recs hS16) HT4.out.ok.eq (by rw [HT4.out.ok.len]; exact tD4_rl) (Rd.blk hS16 (.head _) (Nat.le_refl _) (by decide) rfl rfl) rfl (by decide)).mono ?_; rw [tD4_names]; rintro _ w9 ⟨rfl, h4⟩; have hS17 : St w [] w9 ([.blk gw 9 ([.string ⟨([97] : List UInt8).toArray⟩]), .blk g8 27 (tabC tD4 (.slice a4 xs4.length c4) (.slice b4 tD4.lives.length d4)), .blk g7 27 (tabC tD3 (.slice a3 xs3.length c3) (.slice b3 tD3.lives.length d3)), .blk g5 27 (tabC tD2 (.slice a2 xs2.length c2) (.slice b2 tD2.lives.length d2)), .blk g3 27 (tabC tD1 (.slice a1 xs1.length c1) (.slice b1 tD1.lives.length d1)), .blk g1 27 (tabC tS (.slice (some ⟨g9, 0, none⟩) xs0.length c0) (.slice b0 tS.lives.length d0))] ++ P5) := St.call0 hS16 h4; clear h4 hS16))
  go_ret
  exact ⟨rfl, hS17.nil⟩
end Go.Proofs.Ytifajcblbedcoaa
namespace Go.Proofs.Ytifajcblbedcoaa
set_option linter.unusedVariables false
set_option linter.unusedSimpArgs false
end Go.Proofs.Ytifajcblbedcoaa
