import Derived.Test.YtmdfbdfijnmhkaaGreatR33
namespace Go.Proofs.YtmdfbdfijnmhkaaGreat
set_option linter.unusedVariables false
set_option linter.unusedSimpArgs false
open Go.RowKit Hp
attribute [local irreducible] Go.Calls Go.wpList
set_option maxRecDepth 100000
set_option maxHeartbeats 4000000
section
attribute [local go_sem ↓] loadedPA loadedIn
theorem pullM_any {w : World} {ga : Nat} {x : GA} {a : AR} (hS : St w (arF ga x a) w (arP ga x a)) (ok : a.Ok) (hll : a.loose.length < 1000000) (dev : Int) :
    Calls Tryz.prog 14 #[.pointer (some ⟨ga, 0, none⟩), .int .i64 dev] w fun e w' => e = .returned (.int .i64 (a.pullE dev)) ∧ ∃ x', St w (arF ga x a) w' (arP ga x' (a.pull dev)) := by
  have hst0 := hS
  have OK := hid ok
  have HLL := hid hll
  have hmf := rmf
  clear hS ok hll
  go_enter Tryz.func14, Tryz.ntmps14
  go_wp2_with (first | go_big_skip | go_big_guard | (refine wl_box hst0 rfl rfl rfl ?_; intro g3 w1 hst1; clear hst0) | (refine wl_box hst1 rfl rfl rfl ?_; intro g4 w2 hst2; clear hst1))
  have hX := hst2.drew
  clear hst2
  refine wp_region_held_drew (S := (fun w' => (loadVarH 3 ⟨g4, 0, none⟩).run Tryz.prog w' = .ok (.int .i64 dev) w' ∧ (loadVarH 23 ⟨g3, 0, none⟩).run Tryz.prog w' = .ok (.pointer (some ⟨ga, 0, none⟩)) w')) (by kernel_rfl) (by exact ⟨ldS [] hX rfl, ldS [_] hX rfl⟩) (fun hHeld => ?_)
  refine wpAnyH_take (i := 0) (oi := ⟨some 5, _, _, _, _, _⟩) (v := ?_) rfl (by kernel_rfl) (by kernel_rfl) (by kernel_rfl) (fun _ _ _ h => h) (Or.inl ⟨by rfl, ?_⟩) (by assumption) ?_
  rotate_left
  · intro w hSw; (try dsimp only at hSw); go_simp; try with_reducible rfl
  (try simp only [Act.put, List.setIfInBounds_toArray, List.set_cons_zero, List.set_cons_succ])
  refine wpAnyH_take (i := 1) (oi := ⟨some 6, _, _, _, _, _⟩) (v := ?_) rfl (by kernel_rfl) (by kernel_rfl) (by kernel_rfl) (fun _ _ _ h => h) (Or.inl ⟨by rfl, ?_⟩) (by assumption) ?_
  rotate_left
  · intro w hSw; (try dsimp only at hSw); go_simp; try with_reducible rfl
  (try simp only [Act.put, List.setIfInBounds_toArray, List.set_cons_zero, List.set_cons_succ])
  refine wpAnyH_take (i := 2) (oi := ⟨some 7, _, _, _, _, _⟩) (v := ?_) rfl (by kernel_rfl) (by kernel_rfl) (by kernel_rfl) (fun _ _ _ h => h) (Or.inl ⟨by rfl, ?_⟩) (by assumption) ?_
  rotate_left
  · intro w hSw; (try dsimp only at hSw); go_simp; try with_reducible rfl
  (try simp only [Act.put, List.setIfInBounds_toArray, List.set_cons_zero, List.set_cons_succ])
  refine wpAnyH_take (i := 3) (oi := ⟨some 8, _, _, _, _, _⟩) (v := ?_) rfl (by kernel_rfl) (by kernel_rfl) (by kernel_rfl) (fun _ _ _ h => h) (Or.inl ⟨by rfl, ?_⟩) (by assumption) ?_
  rotate_left
  · intro w hSw; (try dsimp only at hSw); go_simp; try with_reducible rfl
  (try simp only [Act.put, List.setIfInBounds_toArray, List.set_cons_zero, List.set_cons_succ])
  refine wpAnyH_take (i := 4) (oi := ⟨some 9, _, _, _, _, _⟩) (v := ?_) rfl (by kernel_rfl) (by kernel_rfl) (by kernel_rfl) (fun _ _ _ h => h) (Or.inl ⟨by rfl, ?_⟩) (by assumption) ?_
  rotate_left
  · intro w hSw; (try dsimp only at hSw); go_simp; try with_reducible rfl
  (try simp only [Act.put, List.setIfInBounds_toArray, List.set_cons_zero, List.set_cons_succ])
  refine wpAnyH_ready (rs := [5]) (by kernel_rfl) (by simp) ?_
  refine (AllReadyH.cons (o := ⟨some 10, _, _, _, _, _⟩) rfl (fun K hK => ?_) AllReadyH.nil)
  rw [if_pos (by rfl)]
  go_simp
  go_at_call 40
  refine (isDevice_any ga dev _).mono ?_
  rintro _ w3 ⟨g0, g1, rfl, h4⟩
  have hA1 := St.call hX h4
  clear h4
  refine hK.out _ _ ?_ (fun hHeld => ?_)
  · exact ⟨ldS [_, _] hA1 rfl, ldS [_, _, _] hA1 rfl⟩
  clear hK K
  (try simp only [Act.put, List.setIfInBounds_toArray, List.set_cons_zero, List.set_cons_succ])
  refine wpAnyH_ready (rs := [6]) (by kernel_rfl) (by simp) ?_
  refine (AllReadyH.cons (o := ⟨some 11, _, _, _, _, _⟩) rfl (fun K hK => ?_) AllReadyH.nil)
  rw [if_pos (by rfl)]
  refine ow_of_wl (ops := #[]) (by rfl) ?_
  apply wl_bsX ([cloV 93 [ptrV g0, ptrV g1]]) ([cloV 93 [ptrV g0, ptrV g1]]) hA1
  rfl
  rfl
  exact rfl
  exact rfl
  infer_instance
  infer_instance
  rfl
  rfl
  rfl
  intro gs w5 hA3
  refine q0_nil ?_
  refine hK.out _ _ ?_ (fun hHeld => ?_)
  · exact ⟨ldS [_, _, _] hA3 rfl, ldS [_, _, _, _] hA3 rfl⟩
  clear hK K
  (try simp only [Act.put, List.setIfInBounds_toArray, List.set_cons_zero, List.set_cons_succ])
  refine wpAnyH_ready (rs := [7]) (by kernel_rfl) (by simp) ?_
  refine (AllReadyH.cons (o := ⟨some 12, _, _, _, _, _⟩) rfl (fun K hK => ?_) AllReadyH.nil)
  rw [if_pos (by rfl)]
  go_simp
  go_at_call 37
  have hQ := St.selfF (L := ([HA.blk gs 92 [cloV 93 [ptrV g0, ptrV g1]], .blk g1 3 [.int .i64 dev], .blk g0 23 [.pointer (some ⟨ga, 0, none⟩)], .blk g4 3 [.int .i64 dev], .blk g3 23 [.pointer (some ⟨ga, 0, none⟩)]] : List HA) ++ arP ga x a) hA3
  refine (befallsE_any hQ OK.out dev 38 [ptrV g3, ptrV g4] (.slice (some ⟨gs, 0, none⟩) 1 1) 1 [cloV 93 [ptrV g0, ptrV g1]] [orE (a.inD dev) 5] ((a.upd dev fGone).rest dev.toNat) (fun _ _ => rfl) (fun X w' h => Rd.blk h (List.mem_append_right _ (.head _)) (Nat.le_refl _) (by decide) rfl rfl) rfl rfl (by decide) rfl (fun X j f e hf he _ => (match j, hf, he with | 0, hf, he => (by cases hf; cases he; exact probe_isDevice (fun _ h => ArrAt.of h (fun p hp => List.mem_append_right _ (List.mem_append_right _ hp)) OK.out.d0) keeps_st (fun _ h => St.cell h (off := 0) (List.mem_append_right _ (.tail _ (.tail _ (.head _)))) rfl) (fun _ h => St.cell h (off := 0) (List.mem_append_right _ (.tail _ (.head _))) rfl)) | j + 1, hf, _ => (by simp at hf))) (fun h => orE_zero (by decide) (firstE_all h _ (.head _))) (fun e he => (by simp only [List.mem_cons, List.not_mem_nil, or_false] at he; rcases he with rfl; exact orE_isE _ _ (by unfold isE; decide))) (fun h1 _ w' hb h9 => (by have hin : a.inD dev = true := orE_zero (by decide) (firstE_all h1 _ (.head _)); obtain ⟨k, rfl⟩ : ∃ k : Nat, dev = k := ⟨dev.toNat, by have := (inD_dev hin).1; omega⟩; exact pull1_any h9 OK.out HLL.out hin (cell_blk (hb g3 _ _ (.tail _ (.tail _ (.tail _ (.tail _ (.head _)))))).1) (hb g3 _ _ (.tail _ (.tail _ (.tail _ (.tail _ (.head _)))))).2 (cell_blk (hb g4 _ _ (.tail _ (.tail _ (.tail _ (.head _))))).1) (hb g4 _ _ (.tail _ (.tail _ (.tail _ (.head _))))).2))).mono ?_
  rintro _ w9 ⟨rfl, X, x', h4⟩
  have hA4 := St.thenF (L := ([HA.blk gs 92 [cloV 93 [ptrV g0, ptrV g1]], .blk g1 3 [.int .i64 dev], .blk g0 23 [.pointer (some ⟨ga, 0, none⟩)], .blk g4 3 [.int .i64 dev], .blk g3 23 [.pointer (some ⟨ga, 0, none⟩)]] : List HA) ++ arP ga x a) hA3 h4
  clear h4 hQ
  refine hK.out _ _ ?_ (fun hHeld => ?_)
  · exact ⟨Loads.cell TyS.out (St.cell hA4 (off := 0) (List.mem_append_right _ (.tail _ (.tail _ (.tail _ (.head _))))) rfl), Loads.cell TyS.out (St.cell hA4 (off := 0) (List.mem_append_right _ (.tail _ (.tail _ (.tail _ (.tail _ (.head _)))))) rfl)⟩
  clear hK K
  (try simp only [Act.put, List.setIfInBounds_toArray, List.set_cons_zero, List.set_cons_succ])
  refine wpAnyH_take (i := 8) (oi := ⟨some 4, _, _, _, _, _⟩) (v := ?_) rfl (by kernel_rfl) (by kernel_rfl) (by kernel_rfl) (fun _ _ _ h => h) (Or.inl ⟨by rfl, ?_⟩) (by assumption) ?_
  rotate_left
  · intro w hSw; (try dsimp only at hSw); go_simp; try with_reducible rfl
  (try simp only [Act.put, List.setIfInBounds_toArray, List.set_cons_zero, List.set_cons_succ])
  refine wpAnyH_done (by kernel_rfl) ?_ _
  clear hHeld
  go_wp2_with (first | go_big_skip | go_big_guard | fail)
  go_ret
  exact ⟨rfl, x', St.sub hA4 (.trans (List.sublist_append_right _ _) (List.sublist_append_right _ _))⟩
end
end Go.Proofs.YtmdfbdfijnmhkaaGreat
