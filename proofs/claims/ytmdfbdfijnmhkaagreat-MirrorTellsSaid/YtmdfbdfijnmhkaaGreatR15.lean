import Derived.Test.YtmdfbdfijnmhkaaGreatR14
namespace Go.Proofs.YtmdfbdfijnmhkaaGreat
set_option linter.unusedVariables false
set_option linter.unusedSimpArgs false
open Go.RowKit Hp
attribute [local irreducible] Go.Calls Go.wpList
set_option maxRecDepth 100000
set_option maxHeartbeats 4000000
section
attribute [local go_sem ↓] loadedPA loadedIn
def AR.readB (a : AR) (dev pl : Int) : List UInt8 := if a.readE dev pl = 0 then a.tells dev pl else []
theorem read_badM {w : World} {ga : Nat} {x : GA} {a : AR} (hS : St w (arF ga x a) w (arP ga x a)) (ok : a.Ok) (hll : a.loose.length < 1000000) (dev pl : Int) (h1 : firstE (readL a dev pl) ≠ 0) :
    Calls Tryz.prog 36 #[.pointer (some ⟨ga, 0, none⟩), .int .i64 dev, .int .i64 pl] w fun e w' => ∃ u, e = .returned (.tuple #[u, .int .i64 (a.readE dev pl)]) ∧ St w (arF ga x a) w' (.row u 5 1 (a.readB dev pl).length (bytesV (a.readB dev pl)) :: arP ga x (a.read dev pl)) := by
  have hb := read_bad ok.d0 h1
  have hbb : a.readB dev pl = [] := by unfold AR.readB; rw [if_neg (by rw [hb.1]; exact h1)]
  rw [hbb, hb.1, hb.2]
  have HE := hid (firstE_isE (readL_isE a dev pl) h1)
  have H1 := hid h1
  have OK := hid ok
  have hst0 := hS
  have hmf := rmf
  clear hb h1 ok hS hbb
  go_enter Tryz.func36, Tryz.ntmps36
  go_wp2_with (first | go_big_skip | go_big_guard | (refine wl_box hst0 rfl rfl rfl ?_; intro g3 w1 hst1; clear hst0) | (refine wl_box hst1 rfl rfl rfl ?_; intro g4 w2 hst2; clear hst1))
  have hX := hst2.drew
  clear hst2
  refine wp_region_held_drew (S := (fun w' => (loadVarH 3 ⟨g4, 0, none⟩).run Tryz.prog w' = .ok (.int .i64 dev) w' ∧ (loadVarH 23 ⟨g3, 0, none⟩).run Tryz.prog w' = .ok (.pointer (some ⟨ga, 0, none⟩)) w')) (by kernel_rfl) (by exact ⟨ldS [] hX (rfl), ldS [_] hX (rfl)⟩) (fun hHeld => ?_)
  refine tkH 0 9 ?_ rfl (by kernel_rfl) (fun _ _ _ h => h) (by rfl) (by assumption) ?_ ?_
  rotate_left
  · intro w hSw; (try dsimp only at hSw); go_simp; try with_reducible rfl
  (try simp only [pmL, pnL, sc0, sc1])
  refine tkH 1 10 ?_ rfl (by kernel_rfl) (fun _ _ _ h => h) (by rfl) (by assumption) ?_ ?_
  rotate_left
  · intro w hSw; (try dsimp only at hSw); go_simp; try with_reducible rfl
  (try simp only [pmL, pnL, sc0, sc1])
  refine tkH 3 12 ?_ rfl (by kernel_rfl) (fun _ _ _ h => h) (by rfl) (by assumption) ?_ ?_
  rotate_left
  · intro w hSw; (try dsimp only at hSw); go_simp; try with_reducible rfl
  (try simp only [pmL, pnL, sc0, sc1])
  refine tkH 5 14 ?_ rfl (by kernel_rfl) (fun _ _ _ h => h) (by rfl) (by assumption) ?_ ?_
  rotate_left
  · intro w hSw; (try dsimp only at hSw); go_simp; try with_reducible rfl
  (try simp only [pmL, pnL, sc0, sc1])
  refine tkH 6 15 ?_ rfl (by kernel_rfl) (fun _ _ _ h => h) (by rfl) (by assumption) ?_ ?_
  rotate_left
  · intro w hSw; (try dsimp only at hSw); go_simp; try with_reducible rfl
  (try simp only [pmL, pnL, sc0, sc1])
  refine tkH 7 16 ?_ rfl (by kernel_rfl) (fun _ _ _ h => h) (by rfl) (by assumption) ?_ ?_
  rotate_left
  · intro w hSw; (try dsimp only at hSw); go_simp; try with_reducible rfl
  (try simp only [pmL, pnL, sc0, sc1])
  refine tkH 9 18 ?_ rfl (by kernel_rfl) (fun _ _ _ h => h) (by rfl) (by assumption) ?_ ?_
  rotate_left
  · intro w hSw; (try dsimp only at hSw); go_simp; try with_reducible rfl
  (try simp only [pmL, pnL, sc0, sc1])
  refine tkH 10 19 ?_ rfl (by kernel_rfl) (fun _ _ _ h => h) (by rfl) (by assumption) ?_ ?_
  rotate_left
  · intro w hSw; (try dsimp only at hSw); go_simp; try with_reducible rfl
  (try simp only [pmL, pnL, sc0, sc1])
  refine tkH 12 21 ?_ rfl (by kernel_rfl) (fun _ _ _ h => h) (by rfl) (by assumption) ?_ ?_
  rotate_left
  · intro w hSw; (try dsimp only at hSw); go_simp; try with_reducible rfl
  (try simp only [pmL, pnL, sc0, sc1])
  refine tkH 2 11 ?_ rfl (by kernel_rfl) (fun _ _ _ h => h) (by rfl) (by assumption) ?_ ?_
  rotate_left
  · intro w hSw; (try dsimp only at hSw); go_simp; try with_reducible rfl
  (try simp only [pmL, pnL, sc0, sc1])
  refine tkH 4 13 ?_ rfl (by kernel_rfl) (fun _ _ _ h => h) (by rfl) (by assumption) ?_ ?_
  rotate_left
  · intro w hSw; (try dsimp only at hSw); go_simp; try with_reducible rfl
  (try simp only [pmL, pnL, sc0, sc1])
  refine wpAnyH_ready (rs := [8]) (by kernel_rfl) (by simp) ?_
  refine (AllReadyH.cons (o := ⟨some 17, _, _, _, _, _⟩) rfl (fun K hK => ?_) AllReadyH.nil)
  rw [if_pos (by rfl)]
  go_simp
  go_at_call 87
  refine (isSector_any ga dev pl _).mono ?_
  rintro _ w3 ⟨g0, g1, g2, rfl, h4⟩
  have hA1 := St.call hX h4
  clear h4
  refine hK.out _ _ ?_ (fun hHeld => ?_)
  · exact ⟨ldS [_, _, _] hA1 (rfl), ldS [_, _, _, _] hA1 (rfl)⟩
  clear hK K
  (try simp only [pmL, pnL, sc0, sc1])
  refine wpAnyH_ready (rs := [11]) (by kernel_rfl) (by simp) ?_
  refine (AllReadyH.cons (o := ⟨some 20, _, _, _, _, _⟩) rfl (fun K hK => ?_) AllReadyH.nil)
  rw [if_pos (by rfl)]
  go_simp
  go_at_call 89
  refine (isHere_any ga dev _).mono ?_
  rintro _ w4 ⟨k0, k1, rfl, h4⟩
  have hA2 := St.call hA1 h4
  clear h4
  refine hK.out _ _ ?_ (fun hHeld => ?_)
  · exact ⟨ldS [_, _, _, _, _] hA2 (rfl), ldS [_, _, _, _, _, _] hA2 (rfl)⟩
  clear hK K
  (try simp only [pmL, pnL, sc0, sc1])
  refine wpAnyH_ready (rs := [13]) (by kernel_rfl) (by simp) ?_
  refine (AllReadyH.cons (o := ⟨some 22, _, _, _, _, _⟩) rfl (fun K hK => ?_) AllReadyH.nil)
  rw [if_pos (by rfl)]
  refine ow_of_wl (ops := #[]) (by rfl) ?_
  apply wl_bsX ([methV 46 (ptrV ga), methV 88 (ptrV ga), cloV 138 [ptrV g0, ptrV g1, ptrV g2], cloV 139 [ptrV k0, ptrV k1], cloV 90 [ptrV g3, ptrV g4]]) ([methV 46 (ptrV ga), methV 88 (ptrV ga), cloV 138 [ptrV g0, ptrV g1, ptrV g2], cloV 139 [ptrV k0, ptrV k1], cloV 90 [ptrV g3, ptrV g4]]) hA2
  rfl
  rfl
  exact rfl
  exact rfl
  infer_instance
  infer_instance
  rfl
  rfl
  rfl
  intro gs w5 hA3
  refine q0_nil ?_
  refine hK.out _ _ ?_ (fun hHeld => ?_)
  · exact ⟨ldS [_, _, _, _, _, _] hA3 (rfl), ldS [_, _, _, _, _, _, _] hA3 (rfl)⟩
  clear hK K
  (try simp only [pmL, pnL, sc0, sc1])
  refine wpAnyH_ready (rs := [14]) (by kernel_rfl) (by simp) ?_
  refine (AllReadyH.cons (o := ⟨some 23, _, _, _, _, _⟩) rfl (fun K hK => ?_) AllReadyH.nil)
  rw [if_pos (by rfl)]
  go_simp
  (go_at_call 45; have hC := checks_any dev (v := .slice (some ⟨gs, 0, none⟩) 5 5) (n := 5) (fs := [methV 46 (ptrV ga), methV 88 (ptrV ga), cloV 138 [ptrV g0, ptrV g1, ptrV g2], cloV 139 [ptrV k0, ptrV k1]]) (f9 := cloV 90 [ptrV g3, ptrV g4]) (es := readL a dev pl) (e9 := 0) (A := (fun w' => St w (arF ga x a) w' (([HA.blk gs 92 ([methV 46 (ptrV ga), methV 88 (ptrV ga), cloV 138 [ptrV g0, ptrV g1, ptrV g2], cloV 139 [ptrV k0, ptrV k1], cloV 90 [ptrV g3, ptrV g4]]), .blk k1 3 [.int .i64 dev], .blk k0 23 [.pointer (some ⟨ga, 0, none⟩)], .blk g2 3 [.int .i64 pl], .blk g1 3 [.int .i64 dev], .blk g0 23 [.pointer (some ⟨ga, 0, none⟩)], .blk g4 3 [.int .i64 dev], .blk g3 23 [.pointer (some ⟨ga, 0, none⟩)]] : List HA) ++ arP ga x a))) (B := (fun w' => St w (arF ga x a) w' (([HA.blk gs 92 ([methV 46 (ptrV ga), methV 88 (ptrV ga), cloV 138 [ptrV g0, ptrV g1, ptrV g2], cloV 139 [ptrV k0, ptrV k1], cloV 90 [ptrV g3, ptrV g4]]), .blk k1 3 [.int .i64 dev], .blk k0 23 [.pointer (some ⟨ga, 0, none⟩)], .blk g2 3 [.int .i64 pl], .blk g1 3 [.int .i64 dev], .blk g0 23 [.pointer (some ⟨ga, 0, none⟩)], .blk g4 3 [.int .i64 dev], .blk g3 23 [.pointer (some ⟨ga, 0, none⟩)]] : List HA) ++ arP ga x a))) _ (fun _ h => Rd.blk h (.head _) (Nat.le_refl _) (by decide) rfl rfl) rfl rfl (by decide) (read_probes (fun _ h => ArrAt.of h (fun p hp => List.mem_append_right _ hp) OK.out.d0) keeps_st (fun _ h => St.cell h (off := 0) (.tail _ (.tail _ (.tail _ (.tail _ (.tail _ (.head _)))))) rfl) (fun _ h => St.cell h (off := 0) (.tail _ (.tail _ (.tail _ (.tail _ (.head _))))) rfl) (fun _ h => St.cell h (off := 0) (.tail _ (.tail _ (.tail _ (.head _)))) rfl) (fun _ h => St.cell h (off := 0) (.tail _ (.tail _ (.head _))) rfl) (fun _ h => St.cell h (off := 0) (.tail _ (.head _)) rfl)) (fun hz => absurd (firstE_zero hz) H1.out) hA3; refine hC.mono ?_; rintro _ w5 hh; obtain ⟨rfl, h4⟩ := checks_bad H1.out hh; clear hC hh hA3; have hA4 := h4; clear h4)
  refine hK.out _ _ ?_ (fun hHeld => ?_)
  · exact ⟨ldS [_, _, _, _, _, _] hA4 (rfl), ldS [_, _, _, _, _, _, _] hA4 (rfl)⟩
  clear hK K
  (try simp only [pmL, pnL, sc0, sc1])
  refine tkH 15 8 ?_ rfl (by kernel_rfl) (fun _ _ _ h => h) (by rfl) (by assumption) ?_ ?_
  rotate_left
  · intro w hSw; (try dsimp only at hSw); go_simp; try with_reducible rfl
  (try simp only [pmL, pnL, sc0, sc1])
  refine wpAnyH_done (by kernel_rfl) ?_ _
  clear hHeld
  obtain ⟨E, hE⟩ : ∃ E, E = firstE (readL a dev pl) := ⟨_, rfl⟩
  have HQ := hid hE
  rw [← hE] at HE H1
  rw [← hE]
  clear hE
  go_wp2_with (first | go_big_skip | go_big_guard | (go_at_call 47; refine (number_isE E dev HE.out H1.out _).mono ?_; rintro _ w6 ⟨rfl, h4⟩; have hst6 := St.call0 hA4 h4; clear h4 hA4))
  go_ret2
  exact ⟨.slice none 0 0, (by rw [HQ.out]; rfl), St.nilR _ 1 (St.sub hst6 (List.sublist_append_right _ _))⟩
theorem read_failM {w : World} {ga : Nat} {x : GA} {a : AR} (hS : St w (arF ga x a) w (arP ga x a)) (ok : a.Ok) (hll : a.loose.length < 1000000) (k p : Nat) (h1 : firstE (readL a (k : Int) (p : Int)) = 0) (h2 : 0 < (a.dv (k : Int)).fail) :
    Calls Tryz.prog 36 #[.pointer (some ⟨ga, 0, none⟩), .int .i64 (k : Int), .int .i64 (p : Int)] w fun e w' => ∃ u, e = .returned (.tuple #[u, .int .i64 (a.readE (k : Int) (p : Int))]) ∧ St w (arF ga x a) w' (.row u 5 1 (a.readB (k : Int) (p : Int)).length (bytesV (a.readB (k : Int) (p : Int))) :: arP ga x (a.read (k : Int) (p : Int))) := by
  have hb := read_ok ok.d0 h1
  have hin : a.inD (k : Int) = true := inS_inD hb.1
  have hfm := ok.fm _ (List.mem_of_getElem? (devs_get hin))
  have HPS : Hid (∀ (M : List Nat) (L1 : List HA) (g3 g4 : Nat), HA.blk g3 23 [.pointer (some ⟨ga, 0, none⟩)] ∈ L1 → HA.blk g4 3 [.int .i64 (k : Int)] ∈ L1 →
      Probe (cloV 90 [ptrV g3, ptrV g4]) 13 (fun w' => St w M w' (L1 ++ arP ga x a)) (fun w' => St w M w' (L1 ++ arP ga x (a.failed (k : Int))))) := hid (by
    intro M L1 g3 g4 c0 c1
    have := probe_read (w0 := w) (M := M) (L1 := L1) (ga := ga) (x := x) hin ⟨hfm.2.2.2.1, hfm.2.2.2.2⟩ c0 c1
    unfold AR.failE at this
    rw [if_pos h2] at this
    exact this)
  have hee : a.failE (k : Int) = 13 := by unfold AR.failE; rw [if_pos h2]
  have hbb : a.readB (k : Int) (p : Int) = [] := by unfold AR.readB; rw [hb.2.1, hee]; rfl
  rw [hbb, hb.2.1, hb.2.2, hee]
  have HS := hid hb.1
  have H1 := hid h1
  have OK := hid ok
  have hst0 := hS
  have hmf := rmf
  clear hb hin hfm hee hbb h1 h2 ok hS
  obtain ⟨a9, ha9⟩ : ∃ a9, a9 = a.failed (k : Int) := ⟨_, rfl⟩
  rw [← ha9] at HPS ⊢
  clear ha9
  go_enter Tryz.func36, Tryz.ntmps36
  go_wp2_with (first | go_big_skip | go_big_guard | (refine wl_box hst0 rfl rfl rfl ?_; intro g3 w1 hst1; clear hst0) | (refine wl_box hst1 rfl rfl rfl ?_; intro g4 w2 hst2; clear hst1))
  have hX := hst2.drew
  clear hst2
  refine wp_region_held_drew (S := (fun w' => (loadVarH 3 ⟨g4, 0, none⟩).run Tryz.prog w' = .ok (.int .i64 (k : Int)) w' ∧ (loadVarH 23 ⟨g3, 0, none⟩).run Tryz.prog w' = .ok (.pointer (some ⟨ga, 0, none⟩)) w')) (by kernel_rfl) (by exact ⟨ldS [] hX (rfl), ldS [_] hX (rfl)⟩) (fun hHeld => ?_)
  refine tkH 0 9 ?_ rfl (by kernel_rfl) (fun _ _ _ h => h) (by rfl) (by assumption) ?_ ?_
  rotate_left
  · intro w hSw; (try dsimp only at hSw); go_simp; try with_reducible rfl
  (try simp only [pmL, pnL, sc0, sc1])
  refine tkH 1 10 ?_ rfl (by kernel_rfl) (fun _ _ _ h => h) (by rfl) (by assumption) ?_ ?_
  rotate_left
  · intro w hSw; (try dsimp only at hSw); go_simp; try with_reducible rfl
  (try simp only [pmL, pnL, sc0, sc1])
  refine tkH 3 12 ?_ rfl (by kernel_rfl) (fun _ _ _ h => h) (by rfl) (by assumption) ?_ ?_
  rotate_left
  · intro w hSw; (try dsimp only at hSw); go_simp; try with_reducible rfl
  (try simp only [pmL, pnL, sc0, sc1])
  refine tkH 5 14 ?_ rfl (by kernel_rfl) (fun _ _ _ h => h) (by rfl) (by assumption) ?_ ?_
  rotate_left
  · intro w hSw; (try dsimp only at hSw); go_simp; try with_reducible rfl
  (try simp only [pmL, pnL, sc0, sc1])
  refine tkH 6 15 ?_ rfl (by kernel_rfl) (fun _ _ _ h => h) (by rfl) (by assumption) ?_ ?_
  rotate_left
  · intro w hSw; (try dsimp only at hSw); go_simp; try with_reducible rfl
  (try simp only [pmL, pnL, sc0, sc1])
  refine tkH 7 16 ?_ rfl (by kernel_rfl) (fun _ _ _ h => h) (by rfl) (by assumption) ?_ ?_
  rotate_left
  · intro w hSw; (try dsimp only at hSw); go_simp; try with_reducible rfl
  (try simp only [pmL, pnL, sc0, sc1])
  refine tkH 9 18 ?_ rfl (by kernel_rfl) (fun _ _ _ h => h) (by rfl) (by assumption) ?_ ?_
  rotate_left
  · intro w hSw; (try dsimp only at hSw); go_simp; try with_reducible rfl
  (try simp only [pmL, pnL, sc0, sc1])
  refine tkH 10 19 ?_ rfl (by kernel_rfl) (fun _ _ _ h => h) (by rfl) (by assumption) ?_ ?_
  rotate_left
  · intro w hSw; (try dsimp only at hSw); go_simp; try with_reducible rfl
  (try simp only [pmL, pnL, sc0, sc1])
  refine tkH 12 21 ?_ rfl (by kernel_rfl) (fun _ _ _ h => h) (by rfl) (by assumption) ?_ ?_
  rotate_left
  · intro w hSw; (try dsimp only at hSw); go_simp; try with_reducible rfl
  (try simp only [pmL, pnL, sc0, sc1])
  refine tkH 2 11 ?_ rfl (by kernel_rfl) (fun _ _ _ h => h) (by rfl) (by assumption) ?_ ?_
  rotate_left
  · intro w hSw; (try dsimp only at hSw); go_simp; try with_reducible rfl
  (try simp only [pmL, pnL, sc0, sc1])
  refine tkH 4 13 ?_ rfl (by kernel_rfl) (fun _ _ _ h => h) (by rfl) (by assumption) ?_ ?_
  rotate_left
  · intro w hSw; (try dsimp only at hSw); go_simp; try with_reducible rfl
  (try simp only [pmL, pnL, sc0, sc1])
  refine wpAnyH_ready (rs := [8]) (by kernel_rfl) (by simp) ?_
  refine (AllReadyH.cons (o := ⟨some 17, _, _, _, _, _⟩) rfl (fun K hK => ?_) AllReadyH.nil)
  rw [if_pos (by rfl)]
  go_simp
  go_at_call 87
  refine (isSector_any ga (k : Int) (p : Int) _).mono ?_
  rintro _ w3 ⟨g0, g1, g2, rfl, h4⟩
  have hA1 := St.call hX h4
  clear h4
  refine hK.out _ _ ?_ (fun hHeld => ?_)
  · exact ⟨ldS [_, _, _] hA1 (rfl), ldS [_, _, _, _] hA1 (rfl)⟩
  clear hK K
  (try simp only [pmL, pnL, sc0, sc1])
  refine wpAnyH_ready (rs := [11]) (by kernel_rfl) (by simp) ?_
  refine (AllReadyH.cons (o := ⟨some 20, _, _, _, _, _⟩) rfl (fun K hK => ?_) AllReadyH.nil)
  rw [if_pos (by rfl)]
  go_simp
  go_at_call 89
  refine (isHere_any ga (k : Int) _).mono ?_
  rintro _ w4 ⟨k0, k1, rfl, h4⟩
  have hA2 := St.call hA1 h4
  clear h4
  refine hK.out _ _ ?_ (fun hHeld => ?_)
  · exact ⟨ldS [_, _, _, _, _] hA2 (rfl), ldS [_, _, _, _, _, _] hA2 (rfl)⟩
  clear hK K
  (try simp only [pmL, pnL, sc0, sc1])
  refine wpAnyH_ready (rs := [13]) (by kernel_rfl) (by simp) ?_
  refine (AllReadyH.cons (o := ⟨some 22, _, _, _, _, _⟩) rfl (fun K hK => ?_) AllReadyH.nil)
  rw [if_pos (by rfl)]
  refine ow_of_wl (ops := #[]) (by rfl) ?_
  apply wl_bsX ([methV 46 (ptrV ga), methV 88 (ptrV ga), cloV 138 [ptrV g0, ptrV g1, ptrV g2], cloV 139 [ptrV k0, ptrV k1], cloV 90 [ptrV g3, ptrV g4]]) ([methV 46 (ptrV ga), methV 88 (ptrV ga), cloV 138 [ptrV g0, ptrV g1, ptrV g2], cloV 139 [ptrV k0, ptrV k1], cloV 90 [ptrV g3, ptrV g4]]) hA2
  rfl
  rfl
  exact rfl
  exact rfl
  infer_instance
  infer_instance
  rfl
  rfl
  rfl
  intro gs w5 hA3
  refine q0_nil ?_
  refine hK.out _ _ ?_ (fun hHeld => ?_)
  · exact ⟨ldS [_, _, _, _, _, _] hA3 (rfl), ldS [_, _, _, _, _, _, _] hA3 (rfl)⟩
  clear hK K
  (try simp only [pmL, pnL, sc0, sc1])
  refine wpAnyH_ready (rs := [14]) (by kernel_rfl) (by simp) ?_
  refine (AllReadyH.cons (o := ⟨some 23, _, _, _, _, _⟩) rfl (fun K hK => ?_) AllReadyH.nil)
  rw [if_pos (by rfl)]
  go_simp
  (go_at_call 45; have hC := checks_any (k : Int) (v := .slice (some ⟨gs, 0, none⟩) 5 5) (n := 5) (fs := [methV 46 (ptrV ga), methV 88 (ptrV ga), cloV 138 [ptrV g0, ptrV g1, ptrV g2], cloV 139 [ptrV k0, ptrV k1]]) (f9 := cloV 90 [ptrV g3, ptrV g4]) (es := readL a (k : Int) (p : Int)) (e9 := 13) (A := (fun w' => St w (arF ga x a) w' (([HA.blk gs 92 ([methV 46 (ptrV ga), methV 88 (ptrV ga), cloV 138 [ptrV g0, ptrV g1, ptrV g2], cloV 139 [ptrV k0, ptrV k1], cloV 90 [ptrV g3, ptrV g4]]), .blk k1 3 [.int .i64 (k : Int)], .blk k0 23 [.pointer (some ⟨ga, 0, none⟩)], .blk g2 3 [.int .i64 (p : Int)], .blk g1 3 [.int .i64 (k : Int)], .blk g0 23 [.pointer (some ⟨ga, 0, none⟩)], .blk g4 3 [.int .i64 (k : Int)], .blk g3 23 [.pointer (some ⟨ga, 0, none⟩)]] : List HA) ++ arP ga x a))) (B := (fun w' => St w (arF ga x a) w' (([HA.blk gs 92 ([methV 46 (ptrV ga), methV 88 (ptrV ga), cloV 138 [ptrV g0, ptrV g1, ptrV g2], cloV 139 [ptrV k0, ptrV k1], cloV 90 [ptrV g3, ptrV g4]]), .blk k1 3 [.int .i64 (k : Int)], .blk k0 23 [.pointer (some ⟨ga, 0, none⟩)], .blk g2 3 [.int .i64 (p : Int)], .blk g1 3 [.int .i64 (k : Int)], .blk g0 23 [.pointer (some ⟨ga, 0, none⟩)], .blk g4 3 [.int .i64 (k : Int)], .blk g3 23 [.pointer (some ⟨ga, 0, none⟩)]] : List HA) ++ arP ga x a9))) _ (fun _ h => Rd.blk h (.head _) (Nat.le_refl _) (by decide) rfl rfl) rfl rfl (by decide) (read_probes (fun _ h => ArrAt.of h (fun p hp => List.mem_append_right _ hp) OK.out.d0) keeps_st (fun _ h => St.cell h (off := 0) (.tail _ (.tail _ (.tail _ (.tail _ (.tail _ (.head _)))))) rfl) (fun _ h => St.cell h (off := 0) (.tail _ (.tail _ (.tail _ (.tail _ (.head _))))) rfl) (fun _ h => St.cell h (off := 0) (.tail _ (.tail _ (.tail _ (.head _)))) rfl) (fun _ h => St.cell h (off := 0) (.tail _ (.tail _ (.head _))) rfl) (fun _ h => St.cell h (off := 0) (.tail _ (.head _)) rfl)) (fun _ => HPS.out _ ([HA.blk gs 92 ([methV 46 (ptrV ga), methV 88 (ptrV ga), cloV 138 [ptrV g0, ptrV g1, ptrV g2], cloV 139 [ptrV k0, ptrV k1], cloV 90 [ptrV g3, ptrV g4]]), .blk k1 3 [.int .i64 (k : Int)], .blk k0 23 [.pointer (some ⟨ga, 0, none⟩)], .blk g2 3 [.int .i64 (p : Int)], .blk g1 3 [.int .i64 (k : Int)], .blk g0 23 [.pointer (some ⟨ga, 0, none⟩)], .blk g4 3 [.int .i64 (k : Int)], .blk g3 23 [.pointer (some ⟨ga, 0, none⟩)]] : List HA) _ _ (.tail _ (.tail _ (.tail _ (.tail _ (.tail _ (.tail _ (.tail _ (.head _)))))))) (.tail _ (.tail _ (.tail _ (.tail _ (.tail _ (.tail _ (.head _)))))))) hA3; refine hC.mono ?_; rintro _ w5 hh; obtain ⟨rfl, h4⟩ := checks_last H1.out (by decide) hh; clear hC hh hA3; have hA4 := h4; clear h4)
  refine hK.out _ _ ?_ (fun hHeld => ?_)
  · exact ⟨ldS [_, _, _, _, _, _] hA4 (rfl), ldS [_, _, _, _, _, _, _] hA4 (rfl)⟩
  clear hK K
  (try simp only [pmL, pnL, sc0, sc1])
  refine tkH 15 8 ?_ rfl (by kernel_rfl) (fun _ _ _ h => h) (by rfl) (by assumption) ?_ ?_
  rotate_left
  · intro w hSw; (try dsimp only at hSw); go_simp; try with_reducible rfl
  (try simp only [pmL, pnL, sc0, sc1])
  refine wpAnyH_done (by kernel_rfl) ?_ _
  clear hHeld
  go_wp2_with (first | go_big_skip | go_big_guard | (go_at_call 47; refine (number_isE 13 (k : Int) (by unfold isE; decide) (by decide) _).mono ?_; rintro _ w6 ⟨rfl, h4⟩; have hst6 := St.call0 hA4 h4; clear h4 hA4))
  go_ret2
  exact ⟨.slice none 0 0, rfl, St.nilR _ 1 (St.sub hst6 (List.sublist_append_right _ _))⟩
theorem read_fineM {w : World} {ga : Nat} {x : GA} {a : AR} (hS : St w (arF ga x a) w (arP ga x a)) (ok : a.Ok) (hll : a.loose.length < 1000000) (k p : Nat) (h1 : firstE (readL a (k : Int) (p : Int)) = 0) (h2 : ¬ 0 < (a.dv (k : Int)).fail) :
    Calls Tryz.prog 36 #[.pointer (some ⟨ga, 0, none⟩), .int .i64 (k : Int), .int .i64 (p : Int)] w fun e w' => ∃ u, e = .returned (.tuple #[u, .int .i64 (a.readE (k : Int) (p : Int))]) ∧ St w (arF ga x a) w' (.row u 5 1 (a.readB (k : Int) (p : Int)).length (bytesV (a.readB (k : Int) (p : Int))) :: arP ga x (a.read (k : Int) (p : Int))) := by
  have hb := read_ok ok.d0 h1
  have hin : a.inD (k : Int) = true := inS_inD hb.1
  have hfm := ok.fm _ (List.mem_of_getElem? (devs_get hin))
  have HPS : Hid (∀ (M : List Nat) (L1 : List HA) (g3 g4 : Nat), HA.blk g3 23 [.pointer (some ⟨ga, 0, none⟩)] ∈ L1 → HA.blk g4 3 [.int .i64 (k : Int)] ∈ L1 →
      Probe (cloV 90 [ptrV g3, ptrV g4]) 0 (fun w' => St w M w' (L1 ++ arP ga x a)) (fun w' => St w M w' (L1 ++ arP ga x (a.failed (k : Int))))) := hid (by
    intro M L1 g3 g4 c0 c1
    have := probe_read (w0 := w) (M := M) (L1 := L1) (ga := ga) (x := x) hin ⟨hfm.2.2.2.1, hfm.2.2.2.2⟩ c0 c1
    unfold AR.failE at this
    rw [if_neg h2] at this
    exact this)
  have hee : a.failE (k : Int) = 0 := by unfold AR.failE; rw [if_neg h2]
  have hbb : a.readB (k : Int) (p : Int) = a.tells (k : Int) (p : Int) := by unfold AR.readB; rw [hb.2.1, hee]; rfl
  rw [hbb, hb.2.1, hb.2.2, hee]
  have HS := hid hb.1
  have H1 := hid h1
  have OK := hid ok
  have hst0 := hS
  have hmf := rmf
  have hfd : a.failed (k : Int) = a := by unfold AR.failed; rw [if_neg h2]
  rw [hfd] at HPS ⊢
  have hT := tells_len ok hb.1 a.loose.length
  rw [List.take_length] at hT
  have HT := hid (show (a.tells (k : Int) (p : Int)).length = 256 from hT)
  obtain ⟨R, hR⟩ : ∃ R, R = a.tells (k : Int) (p : Int) := ⟨_, rfl⟩
  have HR := hid hR
  rw [← hR] at HT ⊢
  clear hT hR hfd
  clear hb hin hfm hee hbb h1 h2 ok hS
  go_enter Tryz.func36, Tryz.ntmps36
  go_wp2_with (first | go_big_skip | go_big_guard | (refine wl_box hst0 rfl rfl rfl ?_; intro g3 w1 hst1; clear hst0) | (refine wl_box hst1 rfl rfl rfl ?_; intro g4 w2 hst2; clear hst1))
  have hX := hst2.drew
  clear hst2
  refine wp_region_held_drew (S := (fun w' => (loadVarH 3 ⟨g4, 0, none⟩).run Tryz.prog w' = .ok (.int .i64 (k : Int)) w' ∧ (loadVarH 23 ⟨g3, 0, none⟩).run Tryz.prog w' = .ok (.pointer (some ⟨ga, 0, none⟩)) w')) (by kernel_rfl) (by exact ⟨ldS [] hX (rfl), ldS [_] hX (rfl)⟩) (fun hHeld => ?_)
  refine tkH 0 9 ?_ rfl (by kernel_rfl) (fun _ _ _ h => h) (by rfl) (by assumption) ?_ ?_
  rotate_left
  · intro w hSw; (try dsimp only at hSw); go_simp; try with_reducible rfl
  (try simp only [pmL, pnL, sc0, sc1])
  refine tkH 1 10 ?_ rfl (by kernel_rfl) (fun _ _ _ h => h) (by rfl) (by assumption) ?_ ?_
  rotate_left
  · intro w hSw; (try dsimp only at hSw); go_simp; try with_reducible rfl
  (try simp only [pmL, pnL, sc0, sc1])
  refine tkH 3 12 ?_ rfl (by kernel_rfl) (fun _ _ _ h => h) (by rfl) (by assumption) ?_ ?_
  rotate_left
  · intro w hSw; (try dsimp only at hSw); go_simp; try with_reducible rfl
  (try simp only [pmL, pnL, sc0, sc1])
  refine tkH 5 14 ?_ rfl (by kernel_rfl) (fun _ _ _ h => h) (by rfl) (by assumption) ?_ ?_
  rotate_left
  · intro w hSw; (try dsimp only at hSw); go_simp; try with_reducible rfl
  (try simp only [pmL, pnL, sc0, sc1])
  refine tkH 6 15 ?_ rfl (by kernel_rfl) (fun _ _ _ h => h) (by rfl) (by assumption) ?_ ?_
  rotate_left
  · intro w hSw; (try dsimp only at hSw); go_simp; try with_reducible rfl
  (try simp only [pmL, pnL, sc0, sc1])
  refine tkH 7 16 ?_ rfl (by kernel_rfl) (fun _ _ _ h => h) (by rfl) (by assumption) ?_ ?_
  rotate_left
  · intro w hSw; (try dsimp only at hSw); go_simp; try with_reducible rfl
  (try simp only [pmL, pnL, sc0, sc1])
  refine tkH 9 18 ?_ rfl (by kernel_rfl) (fun _ _ _ h => h) (by rfl) (by assumption) ?_ ?_
  rotate_left
  · intro w hSw; (try dsimp only at hSw); go_simp; try with_reducible rfl
  (try simp only [pmL, pnL, sc0, sc1])
  refine tkH 10 19 ?_ rfl (by kernel_rfl) (fun _ _ _ h => h) (by rfl) (by assumption) ?_ ?_
  rotate_left
  · intro w hSw; (try dsimp only at hSw); go_simp; try with_reducible rfl
  (try simp only [pmL, pnL, sc0, sc1])
  refine tkH 12 21 ?_ rfl (by kernel_rfl) (fun _ _ _ h => h) (by rfl) (by assumption) ?_ ?_
  rotate_left
  · intro w hSw; (try dsimp only at hSw); go_simp; try with_reducible rfl
  (try simp only [pmL, pnL, sc0, sc1])
  refine tkH 2 11 ?_ rfl (by kernel_rfl) (fun _ _ _ h => h) (by rfl) (by assumption) ?_ ?_
  rotate_left
  · intro w hSw; (try dsimp only at hSw); go_simp; try with_reducible rfl
  (try simp only [pmL, pnL, sc0, sc1])
  refine tkH 4 13 ?_ rfl (by kernel_rfl) (fun _ _ _ h => h) (by rfl) (by assumption) ?_ ?_
  rotate_left
  · intro w hSw; (try dsimp only at hSw); go_simp; try with_reducible rfl
  (try simp only [pmL, pnL, sc0, sc1])
  refine wpAnyH_ready (rs := [8]) (by kernel_rfl) (by simp) ?_
  refine (AllReadyH.cons (o := ⟨some 17, _, _, _, _, _⟩) rfl (fun K hK => ?_) AllReadyH.nil)
  rw [if_pos (by rfl)]
  go_simp
  go_at_call 87
  refine (isSector_any ga (k : Int) (p : Int) _).mono ?_
  rintro _ w3 ⟨g0, g1, g2, rfl, h4⟩
  have hA1 := St.call hX h4
  clear h4
  refine hK.out _ _ ?_ (fun hHeld => ?_)
  · exact ⟨ldS [_, _, _] hA1 (rfl), ldS [_, _, _, _] hA1 (rfl)⟩
  clear hK K
  (try simp only [pmL, pnL, sc0, sc1])
  refine wpAnyH_ready (rs := [11]) (by kernel_rfl) (by simp) ?_
  refine (AllReadyH.cons (o := ⟨some 20, _, _, _, _, _⟩) rfl (fun K hK => ?_) AllReadyH.nil)
  rw [if_pos (by rfl)]
  go_simp
  go_at_call 89
  refine (isHere_any ga (k : Int) _).mono ?_
  rintro _ w4 ⟨k0, k1, rfl, h4⟩
  have hA2 := St.call hA1 h4
  clear h4
  refine hK.out _ _ ?_ (fun hHeld => ?_)
  · exact ⟨ldS [_, _, _, _, _] hA2 (rfl), ldS [_, _, _, _, _, _] hA2 (rfl)⟩
  clear hK K
  (try simp only [pmL, pnL, sc0, sc1])
  refine wpAnyH_ready (rs := [13]) (by kernel_rfl) (by simp) ?_
  refine (AllReadyH.cons (o := ⟨some 22, _, _, _, _, _⟩) rfl (fun K hK => ?_) AllReadyH.nil)
  rw [if_pos (by rfl)]
  refine ow_of_wl (ops := #[]) (by rfl) ?_
  apply wl_bsX ([methV 46 (ptrV ga), methV 88 (ptrV ga), cloV 138 [ptrV g0, ptrV g1, ptrV g2], cloV 139 [ptrV k0, ptrV k1], cloV 90 [ptrV g3, ptrV g4]]) ([methV 46 (ptrV ga), methV 88 (ptrV ga), cloV 138 [ptrV g0, ptrV g1, ptrV g2], cloV 139 [ptrV k0, ptrV k1], cloV 90 [ptrV g3, ptrV g4]]) hA2
  rfl
  rfl
  exact rfl
  exact rfl
  infer_instance
  infer_instance
  rfl
  rfl
  rfl
  intro gs w5 hA3
  refine q0_nil ?_
  refine hK.out _ _ ?_ (fun hHeld => ?_)
  · exact ⟨ldS [_, _, _, _, _, _] hA3 (rfl), ldS [_, _, _, _, _, _, _] hA3 (rfl)⟩
  clear hK K
  (try simp only [pmL, pnL, sc0, sc1])
  refine wpAnyH_ready (rs := [14]) (by kernel_rfl) (by simp) ?_
  refine (AllReadyH.cons (o := ⟨some 23, _, _, _, _, _⟩) rfl (fun K hK => ?_) AllReadyH.nil)
  rw [if_pos (by rfl)]
  go_simp
  (go_at_call 45; have hC := checks_any (k : Int) (v := .slice (some ⟨gs, 0, none⟩) 5 5) (n := 5) (fs := [methV 46 (ptrV ga), methV 88 (ptrV ga), cloV 138 [ptrV g0, ptrV g1, ptrV g2], cloV 139 [ptrV k0, ptrV k1]]) (f9 := cloV 90 [ptrV g3, ptrV g4]) (es := readL a (k : Int) (p : Int)) (e9 := 0) (A := (fun w' => St w (arF ga x a) w' (([HA.blk gs 92 ([methV 46 (ptrV ga), methV 88 (ptrV ga), cloV 138 [ptrV g0, ptrV g1, ptrV g2], cloV 139 [ptrV k0, ptrV k1], cloV 90 [ptrV g3, ptrV g4]]), .blk k1 3 [.int .i64 (k : Int)], .blk k0 23 [.pointer (some ⟨ga, 0, none⟩)], .blk g2 3 [.int .i64 (p : Int)], .blk g1 3 [.int .i64 (k : Int)], .blk g0 23 [.pointer (some ⟨ga, 0, none⟩)], .blk g4 3 [.int .i64 (k : Int)], .blk g3 23 [.pointer (some ⟨ga, 0, none⟩)]] : List HA) ++ arP ga x a))) (B := (fun w' => St w (arF ga x a) w' (([HA.blk gs 92 ([methV 46 (ptrV ga), methV 88 (ptrV ga), cloV 138 [ptrV g0, ptrV g1, ptrV g2], cloV 139 [ptrV k0, ptrV k1], cloV 90 [ptrV g3, ptrV g4]]), .blk k1 3 [.int .i64 (k : Int)], .blk k0 23 [.pointer (some ⟨ga, 0, none⟩)], .blk g2 3 [.int .i64 (p : Int)], .blk g1 3 [.int .i64 (k : Int)], .blk g0 23 [.pointer (some ⟨ga, 0, none⟩)], .blk g4 3 [.int .i64 (k : Int)], .blk g3 23 [.pointer (some ⟨ga, 0, none⟩)]] : List HA) ++ arP ga x a))) _ (fun _ h => Rd.blk h (.head _) (Nat.le_refl _) (by decide) rfl rfl) rfl rfl (by decide) (read_probes (fun _ h => ArrAt.of h (fun p hp => List.mem_append_right _ hp) OK.out.d0) keeps_st (fun _ h => St.cell h (off := 0) (.tail _ (.tail _ (.tail _ (.tail _ (.tail _ (.head _)))))) rfl) (fun _ h => St.cell h (off := 0) (.tail _ (.tail _ (.tail _ (.tail _ (.head _))))) rfl) (fun _ h => St.cell h (off := 0) (.tail _ (.tail _ (.tail _ (.head _)))) rfl) (fun _ h => St.cell h (off := 0) (.tail _ (.tail _ (.head _))) rfl) (fun _ h => St.cell h (off := 0) (.tail _ (.head _)) rfl)) (fun _ => HPS.out _ ([HA.blk gs 92 ([methV 46 (ptrV ga), methV 88 (ptrV ga), cloV 138 [ptrV g0, ptrV g1, ptrV g2], cloV 139 [ptrV k0, ptrV k1], cloV 90 [ptrV g3, ptrV g4]]), .blk k1 3 [.int .i64 (k : Int)], .blk k0 23 [.pointer (some ⟨ga, 0, none⟩)], .blk g2 3 [.int .i64 (p : Int)], .blk g1 3 [.int .i64 (k : Int)], .blk g0 23 [.pointer (some ⟨ga, 0, none⟩)], .blk g4 3 [.int .i64 (k : Int)], .blk g3 23 [.pointer (some ⟨ga, 0, none⟩)]] : List HA) _ _ (.tail _ (.tail _ (.tail _ (.tail _ (.tail _ (.tail _ (.tail _ (.head _)))))))) (.tail _ (.tail _ (.tail _ (.tail _ (.tail _ (.tail _ (.head _)))))))) hA3; refine hC.mono ?_; rintro _ w5 hh; obtain ⟨rfl, h4⟩ := checks_fine H1.out hh; clear hC hh hA3; have hA4 := h4; clear h4)
  refine hK.out _ _ ?_ (fun hHeld => ?_)
  · exact ⟨ldS [_, _, _, _, _, _] hA4 (rfl), ldS [_, _, _, _, _, _, _] hA4 (rfl)⟩
  clear hK K
  (try simp only [pmL, pnL, sc0, sc1])
  refine tkH 15 8 ?_ rfl (by kernel_rfl) (fun _ _ _ h => h) (by rfl) (by assumption) ?_ ?_
  rotate_left
  · intro w hSw; (try dsimp only at hSw); go_simp; try with_reducible rfl
  (try simp only [pmL, pnL, sc0, sc1])
  refine wpAnyH_done (by kernel_rfl) ?_ _
  clear hHeld
  go_wp2_with (first | go_big_skip | go_big_guard | (refine wl_loadE rfl rfl rfl ?_; first | refine ⟨_, Loads.at [_, _, _, _, _, _] hA4 rfl, ?_⟩ | refine ⟨_, Loads.at [_, _, _, _, _, _, _] hA4 rfl, ?_⟩) | (go_at_call 50; refine (tells_any (ArrAll.of hA4 (fun p hp => List.mem_append_right _ hp) OK.out.d0) OK.out hll k p HS.out).mono ?_; rw [← HR.out]; rintro _ w8 ⟨u, rfl, h4⟩; have hst6 := St.call hA4 h4; clear h4 hA4))
  go_ret2
  refine ⟨u, rfl, ?_⟩
  rw [HT.out]
  exact St.sub hst6 (.cons_cons _ (List.sublist_append_right _ _))
end
theorem readM_any {w : World} {ga : Nat} {x : GA} {a : AR} (hS : St w (arF ga x a) w (arP ga x a)) (ok : a.Ok) (hll : a.loose.length < 1000000) (dev pl : Int) :
    Calls Tryz.prog 36 #[.pointer (some ⟨ga, 0, none⟩), .int .i64 dev, .int .i64 pl] w fun e w' => ∃ u, e = .returned (.tuple #[u, .int .i64 (a.readE dev pl)]) ∧ St w (arF ga x a) w' (.row u 5 1 (a.readB dev pl).length (bytesV (a.readB dev pl)) :: arP ga x (a.read dev pl)) := by
  by_cases h1 : firstE (readL a dev pl) = 0
  · have hb := read_ok ok.d0 h1
    obtain ⟨k, rfl⟩ : ∃ k : Nat, dev = k := ⟨dev.toNat, by have := (inD_dev (inS_inD hb.1)).1; omega⟩
    obtain ⟨p, rfl⟩ : ∃ p : Nat, pl = p := ⟨pl.toNat, by have := (inS_pl hb.1).1; omega⟩
    by_cases h2 : 0 < (a.dv (k : Int)).fail
    · exact read_failM hS ok hll k p h1 h2
    · exact read_fineM hS ok hll k p h1 h2
  · exact read_badM hS ok hll dev pl h1
end Go.Proofs.YtmdfbdfijnmhkaaGreat
