import Derived.Test.YtmdfbdfijnmhkaaGreatR17
namespace Go.Proofs.YtmdfbdfijnmhkaaGreat
set_option linter.unusedVariables false
set_option linter.unusedSimpArgs false
open Go.RowKit Hp
attribute [local irreducible] Go.Calls Go.wpList
set_option maxRecDepth 100000
set_option maxHeartbeats 4000000
theorem partitionV_any {w : World} {g3 : Nat} {k : Nat} (h0 : w.cell? ⟨g3, 0, none⟩ = some (.int .i64 (k : Int))) (l : List LW) (v : Value) (n : Nat) (hr : Rd w v 258 n (looV l)) (hn : l.length = n) (hb : ∀ v ∈ l, v.b.length = 256) (hbd : n < 1000000) :
    Calls Tryz.prog 101 #[v, cloV 102 [ptrV g3]] w fun e w' => ∃ u v, e = .returned (.tuple #[u, v]) ∧
      St w [] w' [.row u 149 258 (l.filter fun w => w.dev == k).length (looV (l.filter fun w => w.dev == k)), .row v 149 258 (l.filter fun w => w.dev != k).length (looV (l.filter fun w => w.dev != k))] := by
  rcases hr.casesF with ⟨rfl, rfl, _⟩ | ⟨A, c, rfl, _⟩
  · exact partition_any h0 l none 0 0 hr hn hb hbd
  · exact partition_any h0 l (some A) n c hr hn hb hbd
theorem arP_firms {ga : Nat} {x : GA} {a : AR} {k : Nat} {v : Value} (hin : a.inD (k : Int) = true) :
    arP ga ⟨x.gd, x.cd, x.rest, v⟩ (a.firms k) = .blk ga 109 [.slice (some ⟨x.gd, 0, none⟩) a.devs.length x.cd, v, .int .i64 a.fuse, .bool a.out, .int .i64 a.steps] :: .blk x.gd 89 (devC a ++ x.rest) ::
      .row v 149 258 (a.loose.filter fun w => w.dev != k).length (looV (a.loose.filter fun w => w.dev != k)) :: ((a.devs.take k).map blkD ++ .blk (a.dv (k : Int)).g 144 (secsV ((a.loose.filter fun w => w.dev == k).foldl setS (a.dv (k : Int)).firm)) :: (a.devs.drop (k + 1)).map blkD) := by
  have h1 := devs_split hin (fun d => { d with firm := (a.loose.filter fun w => w.dev == k).foldl setS d.firm })
  have h2 := devC_firm (a := a) (k : Int) (f := fun d => { d with firm := (a.loose.filter fun w => w.dev == k).foldl setS d.firm }) (fun d => by unfold DV.cells; rw [show ({ d with firm := (a.loose.filter fun w => w.dev == k).foldl setS d.firm } : DV).firm.length = d.firm.length from foldS_len _ _]; rfl)
  have h3 := upd_len a (k : Int) (fun d => { d with firm := (a.loose.filter fun w => w.dev == k).foldl setS d.firm })
  show HA.blk ga _ [.slice (some ⟨x.gd, 0, none⟩) (a.upd (k : Int) (fun d => { d with firm := (a.loose.filter fun w => w.dev == k).foldl setS d.firm })).devs.length x.cd, v, _, _, _] :: HA.blk x.gd _ (devC (a.upd (k : Int) (fun d => { d with firm := (a.loose.filter fun w => w.dev == k).foldl setS d.firm })) ++ x.rest) :: _ :: (a.upd (k : Int) (fun d => { d with firm := (a.loose.filter fun w => w.dev == k).foldl setS d.firm })).devs.map blkD = _
  rw [h1, h2, h3]
  rfl
section
theorem loadedSS (A : Addr) : loadVar 86 A = loadVarH 86 A := rfl
attribute [local go_sem ↓] loadedSD loadedIn loadedSS loadedSe
theorem flush_badM {w : World} {ga : Nat} {x : GA} {a : AR} (hS : St w (arF ga x a) w (arP ga x a)) (ok : a.Ok) (hs : 0 ≤ a.steps ∧ a.steps < 4611686018427387904) (hll : a.loose.length < 1000000) (dev : Int) (h1 : firstE (flushL a dev) ≠ 0) :
    Calls Tryz.prog 52 #[.pointer (some ⟨ga, 0, none⟩), .int .i64 dev] w fun e w' => e = .returned (.int .i64 (a.flushE dev)) ∧ ∃ x', St w (arF ga x a) w' (arP ga x' (a.flush dev)) := by
  have hb := flush_bad ok.d0 h1
  rw [hb.1, hb.2]
  have HE := hid (firstE_isE (flushL_isE a dev) h1)
  have H1 := hid h1
  have OK := hid ok
  have hst0 := hS
  have hmf := rmf
  clear hb h1 ok hS
  go_enter Tryz.func52, Tryz.ntmps52
  go_wp2_with (first | go_big_skip | go_big_guard | (refine wl_box hst0 rfl rfl rfl ?_; intro g3 w1 hst1; clear hst0))
  have hX := hst1.drew
  clear hst1
  refine wp_region_held_drew (S := (fun w' => (loadVarH 3 ⟨g3, 0, none⟩).run Tryz.prog w' = .ok (.int .i64 dev) w')) (by kernel_rfl) (by exact ldS [] hX (rfl)) (fun hHeld => ?_)
  refine tkH 0 10 ?_ rfl (by kernel_rfl) (fun _ _ _ h => h) (by rfl) (by assumption) ?_ ?_
  rotate_left
  · intro w hSw; (try dsimp only at hSw); go_simp; try with_reducible rfl
  (try simp only [pmL, pnL, sc0, sc1])
  refine tkH 1 11 ?_ rfl (by kernel_rfl) (fun _ _ _ h => h) (by rfl) (by assumption) ?_ ?_
  rotate_left
  · intro w hSw; (try dsimp only at hSw); go_simp; try with_reducible rfl
  (try simp only [pmL, pnL, sc0, sc1])
  refine tkH 3 13 ?_ rfl (by kernel_rfl) (fun _ _ _ h => h) (by rfl) (by assumption) ?_ ?_
  rotate_left
  · intro w hSw; (try dsimp only at hSw); go_simp; try with_reducible rfl
  (try simp only [pmL, pnL, sc0, sc1])
  refine tkH 5 15 ?_ rfl (by kernel_rfl) (fun _ _ _ h => h) (by rfl) (by assumption) ?_ ?_
  rotate_left
  · intro w hSw; (try dsimp only at hSw); go_simp; try with_reducible rfl
  (try simp only [pmL, pnL, sc0, sc1])
  refine tkH 6 16 ?_ rfl (by kernel_rfl) (fun _ _ _ h => h) (by rfl) (by assumption) ?_ ?_
  rotate_left
  · intro w hSw; (try dsimp only at hSw); go_simp; try with_reducible rfl
  (try simp only [pmL, pnL, sc0, sc1])
  refine tkH 8 18 ?_ rfl (by kernel_rfl) (fun _ _ _ h => h) (by rfl) (by assumption) ?_ ?_
  rotate_left
  · intro w hSw; (try dsimp only at hSw); go_simp; try with_reducible rfl
  (try simp only [pmL, pnL, sc0, sc1])
  refine tkH 9 19 ?_ rfl (by kernel_rfl) (fun _ _ _ h => h) (by rfl) (by assumption) ?_ ?_
  rotate_left
  · intro w hSw; (try dsimp only at hSw); go_simp; try with_reducible rfl
  (try simp only [pmL, pnL, sc0, sc1])
  refine tkH 11 21 ?_ rfl (by kernel_rfl) (fun _ _ _ h => h) (by rfl) (by assumption) ?_ ?_
  rotate_left
  · intro w hSw; (try dsimp only at hSw); go_simp; try with_reducible rfl
  (try simp only [pmL, pnL, sc0, sc1])
  refine tkH 2 12 ?_ rfl (by kernel_rfl) (fun _ _ _ h => h) (by rfl) (by assumption) ?_ ?_
  rotate_left
  · intro w hSw; (try dsimp only at hSw); go_simp; try with_reducible rfl
  (try simp only [pmL, pnL, sc0, sc1])
  refine tkH 4 14 ?_ rfl (by kernel_rfl) (fun _ _ _ h => h) (by rfl) (by assumption) ?_ ?_
  rotate_left
  · intro w hSw; (try dsimp only at hSw); go_simp; try with_reducible rfl
  (try simp only [pmL, pnL, sc0, sc1])
  refine tkH 12 22 ?_ rfl (by kernel_rfl) (fun _ _ _ h => h) (by rfl) (by assumption) ?_ ?_
  rotate_left
  · intro w hSw; (try dsimp only at hSw); go_simp; try with_reducible rfl
  (try simp only [pmL, pnL, sc0, sc1])
  refine wpAnyH_ready (rs := [7]) (by kernel_rfl) (by simp) ?_
  refine (AllReadyH.cons (o := ⟨some 17, _, _, _, _, _⟩) rfl (fun K hK => ?_) AllReadyH.nil)
  rw [if_pos (by rfl)]
  go_simp
  go_at_call 40
  refine (isDevice_any ga dev _).mono ?_
  rintro _ w3 ⟨g0, g1, rfl, h4⟩
  have hA1 := St.call hX h4
  clear h4
  refine hK.out _ _ ?_ (fun hHeld => ?_)
  · exact ldS [_, _] hA1 (rfl)
  clear hK K
  (try simp only [pmL, pnL, sc0, sc1])
  refine wpAnyH_ready (rs := [10]) (by kernel_rfl) (by simp) ?_
  refine (AllReadyH.cons (o := ⟨some 20, _, _, _, _, _⟩) rfl (fun K hK => ?_) AllReadyH.nil)
  rw [if_pos (by rfl)]
  go_simp
  go_at_call 89
  refine (isHere_any ga dev _).mono ?_
  rintro _ w4 ⟨k0, k1, rfl, h4⟩
  have hA2 := St.call hA1 h4
  clear h4
  refine hK.out _ _ ?_ (fun hHeld => ?_)
  · exact ldS [_, _, _, _] hA2 (rfl)
  clear hK K
  (try simp only [pmL, pnL, sc0, sc1])
  refine wpAnyH_ready (rs := [13]) (by kernel_rfl) (by simp) ?_
  refine (AllReadyH.cons (o := ⟨some 23, _, _, _, _, _⟩) rfl (fun K hK => ?_) AllReadyH.nil)
  rw [if_pos (by rfl)]
  refine ow_of_wl (ops := #[]) (by rfl) ?_
  apply wl_bsX ([methV 46 (ptrV ga), methV 88 (ptrV ga), cloV 93 [ptrV g0, ptrV g1], cloV 139 [ptrV k0, ptrV k1], methV 98 (ptrV ga)]) ([methV 46 (ptrV ga), methV 88 (ptrV ga), cloV 93 [ptrV g0, ptrV g1], cloV 139 [ptrV k0, ptrV k1], methV 98 (ptrV ga)]) hA2
  rfl
  rfl
  exact rfl
  exact rfl
  infer_instance
  infer_instance
  rfl
  rfl
  rfl
  intro gs w5 hA3
  refine q0_nil ?_
  refine hK.out _ _ ?_ (fun hHeld => ?_)
  · exact ldS [_, _, _, _, _] hA3 (rfl)
  clear hK K
  (try simp only [pmL, pnL, sc0, sc1])
  refine wpAnyH_ready (rs := [14]) (by kernel_rfl) (by simp) ?_
  refine (AllReadyH.cons (o := ⟨some 24, _, _, _, _, _⟩) rfl (fun K hK => ?_) AllReadyH.nil)
  rw [if_pos (by rfl)]
  go_simp
  (go_at_call 45; have hC := checks_any dev (v := .slice (some ⟨gs, 0, none⟩) 5 5) (n := 5) (fs := [methV 46 (ptrV ga), methV 88 (ptrV ga), cloV 93 [ptrV g0, ptrV g1], cloV 139 [ptrV k0, ptrV k1]]) (f9 := methV 98 (ptrV ga)) (es := flushL a dev) (e9 := a.stepE) (A := (fun w' => St w (arF ga x a) w' (([HA.blk gs 92 ([methV 46 (ptrV ga), methV 88 (ptrV ga), cloV 93 [ptrV g0, ptrV g1], cloV 139 [ptrV k0, ptrV k1], methV 98 (ptrV ga)]), .blk k1 3 [.int .i64 dev], .blk k0 23 [.pointer (some ⟨ga, 0, none⟩)], .blk g1 3 [.int .i64 dev], .blk g0 23 [.pointer (some ⟨ga, 0, none⟩)], .blk g3 3 [.int .i64 dev]] : List HA) ++ arP ga x a))) (B := (fun w' => St w (arF ga x a) w' (([HA.blk gs 92 ([methV 46 (ptrV ga), methV 88 (ptrV ga), cloV 93 [ptrV g0, ptrV g1], cloV 139 [ptrV k0, ptrV k1], methV 98 (ptrV ga)]), .blk k1 3 [.int .i64 dev], .blk k0 23 [.pointer (some ⟨ga, 0, none⟩)], .blk g1 3 [.int .i64 dev], .blk g0 23 [.pointer (some ⟨ga, 0, none⟩)], .blk g3 3 [.int .i64 dev]] : List HA) ++ arP ga x a.step))) _ (fun _ h => Rd.blk h (.head _) (Nat.le_refl _) (by decide) rfl rfl) rfl rfl (by decide) (flush_probes (fun _ h => ArrAt.of h (fun p hp => List.mem_append_right _ hp) OK.out.d0) keeps_st (fun _ h => St.cell h (off := 0) (.tail _ (.tail _ (.tail _ (.tail _ (.head _))))) rfl) (fun _ h => St.cell h (off := 0) (.tail _ (.tail _ (.tail _ (.head _)))) rfl) (fun _ h => St.cell h (off := 0) (.tail _ (.tail _ (.head _))) rfl) (fun _ h => St.cell h (off := 0) (.tail _ (.head _)) rfl)) (fun _ => probe_step (L1 := ([HA.blk gs 92 ([methV 46 (ptrV ga), methV 88 (ptrV ga), cloV 93 [ptrV g0, ptrV g1], cloV 139 [ptrV k0, ptrV k1], methV 98 (ptrV ga)]), .blk k1 3 [.int .i64 dev], .blk k0 23 [.pointer (some ⟨ga, 0, none⟩)], .blk g1 3 [.int .i64 dev], .blk g0 23 [.pointer (some ⟨ga, 0, none⟩)], .blk g3 3 [.int .i64 dev]] : List HA)) (ga := ga) (x := x) hs OK.out.fu) hA3; refine hC.mono ?_; rintro _ w5 hh; obtain ⟨rfl, h4⟩ := checks_bad H1.out hh; clear hC hh hA3; have hA4 := h4; clear h4)
  refine hK.out _ _ ?_ (fun hHeld => ?_)
  · exact ldS [_, _, _, _, _] hA4 (rfl)
  clear hK K
  (try simp only [pmL, pnL, sc0, sc1])
  refine tkH 15 5 ?_ rfl (by kernel_rfl) (fun _ _ _ h => h) (by rfl) (by assumption) ?_ ?_
  rotate_left
  · intro w hSw; (try dsimp only at hSw); go_simp; try with_reducible rfl
  (try simp only [pmL, pnL, sc0, sc1])
  refine wpAnyH_done (by kernel_rfl) ?_ _
  clear hHeld
  obtain ⟨E, hE⟩ : ∃ E, E = firstE (flushL a dev) := ⟨_, rfl⟩
  have HQ := hid hE
  rw [← hE] at HE H1
  rw [← hE]
  clear hE
  go_wp2_with (first | go_big_skip | go_big_guard | (go_at_call 47; refine (number_isE E dev HE.out H1.out _).mono ?_; rintro _ w6 ⟨rfl, h4⟩; have hst6 := St.call0 hA4 h4; clear h4 hA4))
  go_ret
  exact ⟨congrArg _ (congrArg _ HQ.out), x, St.sub hst6 (List.sublist_append_right _ _)⟩
theorem flush_outM {w : World} {ga : Nat} {x : GA} {a : AR} (hS : St w (arF ga x a) w (arP ga x a)) (ok : a.Ok) (hs : 0 ≤ a.steps ∧ a.steps < 4611686018427387904) (hll : a.loose.length < 1000000) (dev : Int) (h1 : firstE (flushL a dev) = 0) (h2 : a.fuse = 0) :
    Calls Tryz.prog 52 #[.pointer (some ⟨ga, 0, none⟩), .int .i64 dev] w fun e w' => e = .returned (.int .i64 (a.flushE dev)) ∧ ∃ x', St w (arF ga x a) w' (arP ga x' (a.flush dev)) := by
  have hb := flush_ok ok.d0 h1
  have he : a.stepE = 10 := by unfold AR.stepE; rw [if_pos h2]
  rw [hb.2.1, hb.2.2, if_pos h2, he]
  have H1 := hid h1
  have HE := hid he
  have OK := hid ok
  have hst0 := hS
  have hmf := rmf
  clear hb h1 h2 he ok hS
  go_enter Tryz.func52, Tryz.ntmps52
  go_wp2_with (first | go_big_skip | go_big_guard | (refine wl_box hst0 rfl rfl rfl ?_; intro g3 w1 hst1; clear hst0))
  have hX := hst1.drew
  clear hst1
  refine wp_region_held_drew (S := (fun w' => (loadVarH 3 ⟨g3, 0, none⟩).run Tryz.prog w' = .ok (.int .i64 dev) w')) (by kernel_rfl) (by exact ldS [] hX (rfl)) (fun hHeld => ?_)
  refine tkH 0 10 ?_ rfl (by kernel_rfl) (fun _ _ _ h => h) (by rfl) (by assumption) ?_ ?_
  rotate_left
  · intro w hSw; (try dsimp only at hSw); go_simp; try with_reducible rfl
  (try simp only [pmL, pnL, sc0, sc1])
  refine tkH 1 11 ?_ rfl (by kernel_rfl) (fun _ _ _ h => h) (by rfl) (by assumption) ?_ ?_
  rotate_left
  · intro w hSw; (try dsimp only at hSw); go_simp; try with_reducible rfl
  (try simp only [pmL, pnL, sc0, sc1])
  refine tkH 3 13 ?_ rfl (by kernel_rfl) (fun _ _ _ h => h) (by rfl) (by assumption) ?_ ?_
  rotate_left
  · intro w hSw; (try dsimp only at hSw); go_simp; try with_reducible rfl
  (try simp only [pmL, pnL, sc0, sc1])
  refine tkH 5 15 ?_ rfl (by kernel_rfl) (fun _ _ _ h => h) (by rfl) (by assumption) ?_ ?_
  rotate_left
  · intro w hSw; (try dsimp only at hSw); go_simp; try with_reducible rfl
  (try simp only [pmL, pnL, sc0, sc1])
  refine tkH 6 16 ?_ rfl (by kernel_rfl) (fun _ _ _ h => h) (by rfl) (by assumption) ?_ ?_
  rotate_left
  · intro w hSw; (try dsimp only at hSw); go_simp; try with_reducible rfl
  (try simp only [pmL, pnL, sc0, sc1])
  refine tkH 8 18 ?_ rfl (by kernel_rfl) (fun _ _ _ h => h) (by rfl) (by assumption) ?_ ?_
  rotate_left
  · intro w hSw; (try dsimp only at hSw); go_simp; try with_reducible rfl
  (try simp only [pmL, pnL, sc0, sc1])
  refine tkH 9 19 ?_ rfl (by kernel_rfl) (fun _ _ _ h => h) (by rfl) (by assumption) ?_ ?_
  rotate_left
  · intro w hSw; (try dsimp only at hSw); go_simp; try with_reducible rfl
  (try simp only [pmL, pnL, sc0, sc1])
  refine tkH 11 21 ?_ rfl (by kernel_rfl) (fun _ _ _ h => h) (by rfl) (by assumption) ?_ ?_
  rotate_left
  · intro w hSw; (try dsimp only at hSw); go_simp; try with_reducible rfl
  (try simp only [pmL, pnL, sc0, sc1])
  refine tkH 2 12 ?_ rfl (by kernel_rfl) (fun _ _ _ h => h) (by rfl) (by assumption) ?_ ?_
  rotate_left
  · intro w hSw; (try dsimp only at hSw); go_simp; try with_reducible rfl
  (try simp only [pmL, pnL, sc0, sc1])
  refine tkH 4 14 ?_ rfl (by kernel_rfl) (fun _ _ _ h => h) (by rfl) (by assumption) ?_ ?_
  rotate_left
  · intro w hSw; (try dsimp only at hSw); go_simp; try with_reducible rfl
  (try simp only [pmL, pnL, sc0, sc1])
  refine tkH 12 22 ?_ rfl (by kernel_rfl) (fun _ _ _ h => h) (by rfl) (by assumption) ?_ ?_
  rotate_left
  · intro w hSw; (try dsimp only at hSw); go_simp; try with_reducible rfl
  (try simp only [pmL, pnL, sc0, sc1])
  refine wpAnyH_ready (rs := [7]) (by kernel_rfl) (by simp) ?_
  refine (AllReadyH.cons (o := ⟨some 17, _, _, _, _, _⟩) rfl (fun K hK => ?_) AllReadyH.nil)
  rw [if_pos (by rfl)]
  go_simp
  go_at_call 40
  refine (isDevice_any ga dev _).mono ?_
  rintro _ w3 ⟨g0, g1, rfl, h4⟩
  have hA1 := St.call hX h4
  clear h4
  refine hK.out _ _ ?_ (fun hHeld => ?_)
  · exact ldS [_, _] hA1 (rfl)
  clear hK K
  (try simp only [pmL, pnL, sc0, sc1])
  refine wpAnyH_ready (rs := [10]) (by kernel_rfl) (by simp) ?_
  refine (AllReadyH.cons (o := ⟨some 20, _, _, _, _, _⟩) rfl (fun K hK => ?_) AllReadyH.nil)
  rw [if_pos (by rfl)]
  go_simp
  go_at_call 89
  refine (isHere_any ga dev _).mono ?_
  rintro _ w4 ⟨k0, k1, rfl, h4⟩
  have hA2 := St.call hA1 h4
  clear h4
  refine hK.out _ _ ?_ (fun hHeld => ?_)
  · exact ldS [_, _, _, _] hA2 (rfl)
  clear hK K
  (try simp only [pmL, pnL, sc0, sc1])
  refine wpAnyH_ready (rs := [13]) (by kernel_rfl) (by simp) ?_
  refine (AllReadyH.cons (o := ⟨some 23, _, _, _, _, _⟩) rfl (fun K hK => ?_) AllReadyH.nil)
  rw [if_pos (by rfl)]
  refine ow_of_wl (ops := #[]) (by rfl) ?_
  apply wl_bsX ([methV 46 (ptrV ga), methV 88 (ptrV ga), cloV 93 [ptrV g0, ptrV g1], cloV 139 [ptrV k0, ptrV k1], methV 98 (ptrV ga)]) ([methV 46 (ptrV ga), methV 88 (ptrV ga), cloV 93 [ptrV g0, ptrV g1], cloV 139 [ptrV k0, ptrV k1], methV 98 (ptrV ga)]) hA2
  rfl
  rfl
  exact rfl
  exact rfl
  infer_instance
  infer_instance
  rfl
  rfl
  rfl
  intro gs w5 hA3
  refine q0_nil ?_
  refine hK.out _ _ ?_ (fun hHeld => ?_)
  · exact ldS [_, _, _, _, _] hA3 (rfl)
  clear hK K
  (try simp only [pmL, pnL, sc0, sc1])
  refine wpAnyH_ready (rs := [14]) (by kernel_rfl) (by simp) ?_
  refine (AllReadyH.cons (o := ⟨some 24, _, _, _, _, _⟩) rfl (fun K hK => ?_) AllReadyH.nil)
  rw [if_pos (by rfl)]
  go_simp
  (go_at_call 45; have hC := checks_any dev (v := .slice (some ⟨gs, 0, none⟩) 5 5) (n := 5) (fs := [methV 46 (ptrV ga), methV 88 (ptrV ga), cloV 93 [ptrV g0, ptrV g1], cloV 139 [ptrV k0, ptrV k1]]) (f9 := methV 98 (ptrV ga)) (es := flushL a dev) (e9 := a.stepE) (A := (fun w' => St w (arF ga x a) w' (([HA.blk gs 92 ([methV 46 (ptrV ga), methV 88 (ptrV ga), cloV 93 [ptrV g0, ptrV g1], cloV 139 [ptrV k0, ptrV k1], methV 98 (ptrV ga)]), .blk k1 3 [.int .i64 dev], .blk k0 23 [.pointer (some ⟨ga, 0, none⟩)], .blk g1 3 [.int .i64 dev], .blk g0 23 [.pointer (some ⟨ga, 0, none⟩)], .blk g3 3 [.int .i64 dev]] : List HA) ++ arP ga x a))) (B := (fun w' => St w (arF ga x a) w' (([HA.blk gs 92 ([methV 46 (ptrV ga), methV 88 (ptrV ga), cloV 93 [ptrV g0, ptrV g1], cloV 139 [ptrV k0, ptrV k1], methV 98 (ptrV ga)]), .blk k1 3 [.int .i64 dev], .blk k0 23 [.pointer (some ⟨ga, 0, none⟩)], .blk g1 3 [.int .i64 dev], .blk g0 23 [.pointer (some ⟨ga, 0, none⟩)], .blk g3 3 [.int .i64 dev]] : List HA) ++ arP ga x a.step))) _ (fun _ h => Rd.blk h (.head _) (Nat.le_refl _) (by decide) rfl rfl) rfl rfl (by decide) (flush_probes (fun _ h => ArrAt.of h (fun p hp => List.mem_append_right _ hp) OK.out.d0) keeps_st (fun _ h => St.cell h (off := 0) (.tail _ (.tail _ (.tail _ (.tail _ (.head _))))) rfl) (fun _ h => St.cell h (off := 0) (.tail _ (.tail _ (.tail _ (.head _)))) rfl) (fun _ h => St.cell h (off := 0) (.tail _ (.tail _ (.head _))) rfl) (fun _ h => St.cell h (off := 0) (.tail _ (.head _)) rfl)) (fun _ => probe_step (L1 := ([HA.blk gs 92 ([methV 46 (ptrV ga), methV 88 (ptrV ga), cloV 93 [ptrV g0, ptrV g1], cloV 139 [ptrV k0, ptrV k1], methV 98 (ptrV ga)]), .blk k1 3 [.int .i64 dev], .blk k0 23 [.pointer (some ⟨ga, 0, none⟩)], .blk g1 3 [.int .i64 dev], .blk g0 23 [.pointer (some ⟨ga, 0, none⟩)], .blk g3 3 [.int .i64 dev]] : List HA)) (ga := ga) (x := x) hs OK.out.fu) hA3; rw [HE.out] at hC; refine hC.mono ?_; rintro _ w5 hh; obtain ⟨rfl, h4⟩ := checks_last H1.out (by decide) hh; clear hC hh hA3; have hA4 := h4; clear h4)
  refine hK.out _ _ ?_ (fun hHeld => ?_)
  · exact ldS [_, _, _, _, _] hA4 (rfl)
  clear hK K
  (try simp only [pmL, pnL, sc0, sc1])
  refine tkH 15 5 ?_ rfl (by kernel_rfl) (fun _ _ _ h => h) (by rfl) (by assumption) ?_ ?_
  rotate_left
  · intro w hSw; (try dsimp only at hSw); go_simp; try with_reducible rfl
  (try simp only [pmL, pnL, sc0, sc1])
  refine wpAnyH_done (by kernel_rfl) ?_ _
  clear hHeld
  go_wp2_with (first | go_big_skip | go_big_guard | (go_at_call 47; refine (number_isE 10 dev (by unfold isE; decide) (by decide) _).mono ?_; rintro _ w6 ⟨rfl, h4⟩; have hst6 := St.call0 hA4 h4; clear h4 hA4))
  go_ret
  exact ⟨rfl, x, St.sub hst6 (List.sublist_append_right _ _)⟩
theorem flush_fineM {w : World} {ga : Nat} {x : GA} {a : AR} (hS : St w (arF ga x a) w (arP ga x a)) (ok : a.Ok) (hs : 0 ≤ a.steps ∧ a.steps < 4611686018427387904) (hll : a.loose.length < 1000000) (k : Nat) (h1 : firstE (flushL a (k : Int)) = 0) (h2 : a.fuse ≠ 0) :
    Calls Tryz.prog 52 #[.pointer (some ⟨ga, 0, none⟩), .int .i64 (k : Int)] w fun e w' => e = .returned (.int .i64 (a.flushE (k : Int))) ∧ ∃ x', St w (arF ga x a) w' (arP ga x' (a.flush (k : Int))) := by
  have hb := flush_ok ok.d0 h1
  have he : a.stepE = 0 := by unfold AR.stepE; rw [if_neg h2]
  rw [hb.2.1, hb.2.2, if_neg h2, he, Int.toNat_natCast]
  have hin := hb.1
  obtain ⟨a1, ha1⟩ : ∃ a1, a1 = a.step := ⟨_, rfl⟩
  have e1 : a1.inD (k : Int) = true := by rw [ha1, step_inD]; exact hin
  have e2 : a1.dv (k : Int) = a.dv (k : Int) := by rw [ha1, step_dv]
  have e3 : a1.loose = a.loose := by rw [ha1, step_loose]
  have hlt : k < a1.devs.length := by have := (inD_dev e1).2; omega
  have hdf := ok.fm (a.dv (k : Int)) (List.mem_of_getElem? (devs_get hin))
  rw [← ha1]
  rw [← e2] at hdf
  have HIN := hid e1
  have HLW : Hid (∀ v ∈ a1.loose, v.b.length = 256 ∧ v.pl < (a1.dv (k : Int)).firm.length) := hid (fun v hv => by
    rw [e3] at hv
    have := ok.lw v hv
    rw [hdf.1]
    exact ⟨this.2.2, this.2.1⟩)
  have hll1 : a1.loose.length < 1000000 := by rw [e3]; exact hll
  have HPS : Hid (∀ (M : List Nat) (L1 : List HA), Probe (methV 98 (ptrV ga)) 0 (fun w' => St w M w' (L1 ++ arP ga x a)) (fun w' => St w M w' (L1 ++ arP ga x a1))) := hid (by
    intro M L1
    have := probe_step (w0 := w) (M := M) (L1 := L1) (ga := ga) (x := x) hs ok.fu
    rw [he, ← ha1] at this
    exact this)
  have HFM := hid hdf.2.1
  obtain ⟨Y, hY⟩ : ∃ Y, Y = a1.loose.filter fun w => w.dev == k := ⟨_, rfl⟩
  obtain ⟨Z, hZ⟩ : ∃ Z, Z = a1.loose.filter fun w => w.dev != k := ⟨_, rfl⟩
  obtain ⟨D, hD⟩ : ∃ D, D = a1.dv (k : Int) := ⟨_, rfl⟩
  obtain ⟨FS1, hFS1⟩ : ∃ FS1, FS1 = (a1.devs.take k).map blkD := ⟨_, rfl⟩
  obtain ⟨FS2, hFS2⟩ : ∃ FS2, FS2 = (a1.devs.drop (k + 1)).map blkD := ⟨_, rfl⟩
  have HFS : Hid (a1.devs.map (fun d => HA.blk d.g 144 (secsV d.firm)) = FS1 ++ .blk D.g 144 (secsV D.firm) :: FS2) := hid (by rw [hFS1, hFS2, hD]; exact devs_split0 e1)
  have HFIN : Hid (∀ v, arP ga ⟨x.gd, x.cd, x.rest, v⟩ (a1.firms k) = .blk ga 109 [.slice (some ⟨x.gd, 0, none⟩) a1.devs.length x.cd, v, .int .i64 a1.fuse, .bool a1.out, .int .i64 a1.steps] :: .blk x.gd 89 (devC a1 ++ x.rest) :: .row v 149 258 Z.length (looV Z) :: (FS1 ++ .blk D.g 144 (secsV (Y.foldl setS D.firm)) :: FS2)) := hid (fun v => by rw [hY, hZ, hD, hFS1, hFS2]; exact arP_firms e1)
  have HYB : Hid (∀ v ∈ Y, v.b.length = 256 ∧ v.pl < D.firm.length) := hid (fun v hv => by rw [hD]; rw [hY] at hv; exact HLW.out v (List.mem_filter.1 hv).1)
  have HDC : Hid ((devC a1 ++ x.rest)[k * 5]? = some (.slice (some ⟨D.g, 0, none⟩) D.firm.length D.firm.length)) := hid (by rw [hD]; exact devC_get e1 (i := 0) rfl (by decide))
  have hyl : Y.length < 1000000 := by rw [hY]; exact Nat.lt_of_le_of_lt (List.length_filter_le _ _) hll1
  rw [← hD] at HFM HLW
  have HYE := hid hY
  have HZE := hid hZ
  have H1 := hid h1
  have OK := hid ok
  have hst0 := hS
  have hmf := rmf
  clear hb h1 h2 he hin ha1 e1 e2 e3 hdf hY hZ hD hFS1 hFS2 ok hS hll
  go_enter Tryz.func52, Tryz.ntmps52
  go_wp2_with (first | go_big_skip | go_big_guard | (refine wl_box hst0 rfl rfl rfl ?_; intro g3 w1 hst1; clear hst0))
  have hX := hst1.drew
  clear hst1
  refine wp_region_held_drew (S := (fun w' => (loadVarH 3 ⟨g3, 0, none⟩).run Tryz.prog w' = .ok (.int .i64 (k : Int)) w')) (by kernel_rfl) (by exact ldS [] hX (rfl)) (fun hHeld => ?_)
  refine tkH 0 10 ?_ rfl (by kernel_rfl) (fun _ _ _ h => h) (by rfl) (by assumption) ?_ ?_
  rotate_left
  · intro w hSw; (try dsimp only at hSw); go_simp; try with_reducible rfl
  (try simp only [pmL, pnL, sc0, sc1])
  refine tkH 1 11 ?_ rfl (by kernel_rfl) (fun _ _ _ h => h) (by rfl) (by assumption) ?_ ?_
  rotate_left
  · intro w hSw; (try dsimp only at hSw); go_simp; try with_reducible rfl
  (try simp only [pmL, pnL, sc0, sc1])
  refine tkH 3 13 ?_ rfl (by kernel_rfl) (fun _ _ _ h => h) (by rfl) (by assumption) ?_ ?_
  rotate_left
  · intro w hSw; (try dsimp only at hSw); go_simp; try with_reducible rfl
  (try simp only [pmL, pnL, sc0, sc1])
  refine tkH 5 15 ?_ rfl (by kernel_rfl) (fun _ _ _ h => h) (by rfl) (by assumption) ?_ ?_
  rotate_left
  · intro w hSw; (try dsimp only at hSw); go_simp; try with_reducible rfl
  (try simp only [pmL, pnL, sc0, sc1])
  refine tkH 6 16 ?_ rfl (by kernel_rfl) (fun _ _ _ h => h) (by rfl) (by assumption) ?_ ?_
  rotate_left
  · intro w hSw; (try dsimp only at hSw); go_simp; try with_reducible rfl
  (try simp only [pmL, pnL, sc0, sc1])
  refine tkH 8 18 ?_ rfl (by kernel_rfl) (fun _ _ _ h => h) (by rfl) (by assumption) ?_ ?_
  rotate_left
  · intro w hSw; (try dsimp only at hSw); go_simp; try with_reducible rfl
  (try simp only [pmL, pnL, sc0, sc1])
  refine tkH 9 19 ?_ rfl (by kernel_rfl) (fun _ _ _ h => h) (by rfl) (by assumption) ?_ ?_
  rotate_left
  · intro w hSw; (try dsimp only at hSw); go_simp; try with_reducible rfl
  (try simp only [pmL, pnL, sc0, sc1])
  refine tkH 11 21 ?_ rfl (by kernel_rfl) (fun _ _ _ h => h) (by rfl) (by assumption) ?_ ?_
  rotate_left
  · intro w hSw; (try dsimp only at hSw); go_simp; try with_reducible rfl
  (try simp only [pmL, pnL, sc0, sc1])
  refine tkH 2 12 ?_ rfl (by kernel_rfl) (fun _ _ _ h => h) (by rfl) (by assumption) ?_ ?_
  rotate_left
  · intro w hSw; (try dsimp only at hSw); go_simp; try with_reducible rfl
  (try simp only [pmL, pnL, sc0, sc1])
  refine tkH 4 14 ?_ rfl (by kernel_rfl) (fun _ _ _ h => h) (by rfl) (by assumption) ?_ ?_
  rotate_left
  · intro w hSw; (try dsimp only at hSw); go_simp; try with_reducible rfl
  (try simp only [pmL, pnL, sc0, sc1])
  refine tkH 12 22 ?_ rfl (by kernel_rfl) (fun _ _ _ h => h) (by rfl) (by assumption) ?_ ?_
  rotate_left
  · intro w hSw; (try dsimp only at hSw); go_simp; try with_reducible rfl
  (try simp only [pmL, pnL, sc0, sc1])
  refine wpAnyH_ready (rs := [7]) (by kernel_rfl) (by simp) ?_
  refine (AllReadyH.cons (o := ⟨some 17, _, _, _, _, _⟩) rfl (fun K hK => ?_) AllReadyH.nil)
  rw [if_pos (by rfl)]
  go_simp
  go_at_call 40
  refine (isDevice_any ga (k : Int) _).mono ?_
  rintro _ w3 ⟨g0, g1, rfl, h4⟩
  have hA1 := St.call hX h4
  clear h4
  refine hK.out _ _ ?_ (fun hHeld => ?_)
  · exact ldS [_, _] hA1 (rfl)
  clear hK K
  (try simp only [pmL, pnL, sc0, sc1])
  refine wpAnyH_ready (rs := [10]) (by kernel_rfl) (by simp) ?_
  refine (AllReadyH.cons (o := ⟨some 20, _, _, _, _, _⟩) rfl (fun K hK => ?_) AllReadyH.nil)
  rw [if_pos (by rfl)]
  go_simp
  go_at_call 89
  refine (isHere_any ga (k : Int) _).mono ?_
  rintro _ w4 ⟨k0, k1, rfl, h4⟩
  have hA2 := St.call hA1 h4
  clear h4
  refine hK.out _ _ ?_ (fun hHeld => ?_)
  · exact ldS [_, _, _, _] hA2 (rfl)
  clear hK K
  (try simp only [pmL, pnL, sc0, sc1])
  refine wpAnyH_ready (rs := [13]) (by kernel_rfl) (by simp) ?_
  refine (AllReadyH.cons (o := ⟨some 23, _, _, _, _, _⟩) rfl (fun K hK => ?_) AllReadyH.nil)
  rw [if_pos (by rfl)]
  refine ow_of_wl (ops := #[]) (by rfl) ?_
  apply wl_bsX ([methV 46 (ptrV ga), methV 88 (ptrV ga), cloV 93 [ptrV g0, ptrV g1], cloV 139 [ptrV k0, ptrV k1], methV 98 (ptrV ga)]) ([methV 46 (ptrV ga), methV 88 (ptrV ga), cloV 93 [ptrV g0, ptrV g1], cloV 139 [ptrV k0, ptrV k1], methV 98 (ptrV ga)]) hA2
  rfl
  rfl
  exact rfl
  exact rfl
  infer_instance
  infer_instance
  rfl
  rfl
  rfl
  intro gs w5 hA3
  refine q0_nil ?_
  refine hK.out _ _ ?_ (fun hHeld => ?_)
  · exact ldS [_, _, _, _, _] hA3 (rfl)
  clear hK K
  (try simp only [pmL, pnL, sc0, sc1])
  refine wpAnyH_ready (rs := [14]) (by kernel_rfl) (by simp) ?_
  refine (AllReadyH.cons (o := ⟨some 24, _, _, _, _, _⟩) rfl (fun K hK => ?_) AllReadyH.nil)
  rw [if_pos (by rfl)]
  go_simp
  (go_at_call 45; have hC := checks_any (k : Int) (v := .slice (some ⟨gs, 0, none⟩) 5 5) (n := 5) (fs := [methV 46 (ptrV ga), methV 88 (ptrV ga), cloV 93 [ptrV g0, ptrV g1], cloV 139 [ptrV k0, ptrV k1]]) (f9 := methV 98 (ptrV ga)) (es := flushL a (k : Int)) (e9 := 0) (A := (fun w' => St w (arF ga x a) w' (([HA.blk gs 92 ([methV 46 (ptrV ga), methV 88 (ptrV ga), cloV 93 [ptrV g0, ptrV g1], cloV 139 [ptrV k0, ptrV k1], methV 98 (ptrV ga)]), .blk k1 3 [.int .i64 (k : Int)], .blk k0 23 [.pointer (some ⟨ga, 0, none⟩)], .blk g1 3 [.int .i64 (k : Int)], .blk g0 23 [.pointer (some ⟨ga, 0, none⟩)], .blk g3 3 [.int .i64 (k : Int)]] : List HA) ++ arP ga x a))) (B := (fun w' => St w (arF ga x a) w' (([HA.blk gs 92 ([methV 46 (ptrV ga), methV 88 (ptrV ga), cloV 93 [ptrV g0, ptrV g1], cloV 139 [ptrV k0, ptrV k1], methV 98 (ptrV ga)]), .blk k1 3 [.int .i64 (k : Int)], .blk k0 23 [.pointer (some ⟨ga, 0, none⟩)], .blk g1 3 [.int .i64 (k : Int)], .blk g0 23 [.pointer (some ⟨ga, 0, none⟩)], .blk g3 3 [.int .i64 (k : Int)]] : List HA) ++ arP ga x a1))) _ (fun _ h => Rd.blk h (.head _) (Nat.le_refl _) (by decide) rfl rfl) rfl rfl (by decide) (flush_probes (fun _ h => ArrAt.of h (fun p hp => List.mem_append_right _ hp) OK.out.d0) keeps_st (fun _ h => St.cell h (off := 0) (.tail _ (.tail _ (.tail _ (.tail _ (.head _))))) rfl) (fun _ h => St.cell h (off := 0) (.tail _ (.tail _ (.tail _ (.head _)))) rfl) (fun _ h => St.cell h (off := 0) (.tail _ (.tail _ (.head _))) rfl) (fun _ h => St.cell h (off := 0) (.tail _ (.head _)) rfl)) (fun _ => HPS.out _ _) hA3; refine hC.mono ?_; rintro _ w5 hh; obtain ⟨rfl, h4⟩ := checks_fine H1.out hh; clear hC hh hA3; have hA4 := h4; clear h4)
  refine hK.out _ _ ?_ (fun hHeld => ?_)
  · exact ldS [_, _, _, _, _] hA4 (rfl)
  clear hK K
  (try simp only [pmL, pnL, sc0, sc1])
  refine tkH 15 5 ?_ rfl (by kernel_rfl) (fun _ _ _ h => h) (by rfl) (by assumption) ?_ ?_
  rotate_left
  · intro w hSw; (try dsimp only at hSw); go_simp; try with_reducible rfl
  (try simp only [pmL, pnL, sc0, sc1])
  refine wpAnyH_done (by kernel_rfl) ?_ _
  clear hHeld
  have hst5 : St w (arF ga x a) w5 (.blk g3 3 [.int .i64 (k : Int)] :: .blk ga 109 (arrC x a1) :: .blk x.gd 89 (devC a1 ++ x.rest) :: .row x.lv 149 258 a1.loose.length (looC a1) :: (FS1 ++ .blk D.g 144 (secsV D.firm) :: FS2)) := by
    rw [← HFS.out]
    exact St.sub hA4 (.cons _ (.cons _ (.cons _ (.cons _ (.cons _ (List.Sublist.refl _))))))
  clear hA4
  go_wp2_with (first | go_big_skip | go_big_guard | (refine wl_loadE rfl rfl rfl ?_; refine ⟨_, Loads.at [_] hst5 rfl, ?_⟩) | (go_at_call 101; refine (partitionV_any (k := k) (St.cell hst5 (off := 0) (.head _) rfl) a1.loose x.lv a1.loose.length (Rd.row hst5 (.tail _ (.tail _ (.tail _ (.head _))))) rfl (fun v hv => (HLW.out v hv).1) hll1).mono ?_; rw [← HYE.out, ← HZE.out]; rintro _ w6 ⟨u, v, rfl, h4⟩; have hst6 := St.call hst5 h4; clear h4 hst5; obtain ⟨ua, uc, rfl, _, _, _⟩ := row_form hst6 (.head _); obtain ⟨va, vc, rfl, _, _, _⟩ := row_form hst6 (.tail _ (.head _))))
  go_loopw [40] (fun i wr => ∃ j : Nat, j ≤ Y.length ∧ i = .int .i64 (j : Int) ∧ St w (arF ga x a) wr (.row (.slice ua Y.length uc) 149 258 Y.length (looV Y) :: .row (.slice va Z.length vc) 149 258 Z.length (looV Z) :: .blk g3 3 [.int .i64 (k : Int)] :: .blk ga 109 (arrC x a1) :: .blk x.gd 89 (devC a1 ++ x.rest) :: .row x.lv 149 258 a1.loose.length (looC a1) :: (FS1 ++ .blk D.g 144 (secsV ((Y.take j).foldl setS D.firm)) :: FS2))) (fun i _ => Y.length - (intOf i).toNat)
  case atStart => exact ⟨0, Nat.zero_le _, rfl, hst6⟩
  case round =>
    clear hst6
    obtain ⟨j, hj, rfl, hst⟩ := hrel
    by_cases hlj : j < Y.length
    · have d1 : decide ((j : Int) < (Y.length : Int)) = true := decide_eq_true (by omega)
      have z1 : IntKind.i64.wrap ((j : Int) + 1) = (j : Int) + 1 := IntWalk.i64_in _ (by omega)
      obtain ⟨v, hv⟩ : ∃ v, Y[j]? = some v := ⟨_, List.getElem?_eq_getElem hlj⟩
      have hvb := HYB.out v (List.mem_of_getElem? hv)
      have hlp := hvb.2
      have HRU : Rd wr (.slice ua Y.length uc) 258 Y.length (looV Y) := Rd.row hst (.head _)
      obtain ⟨lb, lo, rfl, hlr⟩ := Rd.at HRU hlj
      have HWR := hid (range_flat (sz := 258) (f := LW.cells) (fun d hd => LW.cells_len (HYB.out d hd).1) hv hlr)
      have HV258 := hid (LW.cells_len hvb.1)
      have HB256 := hid (show (bytesV v.b).length = 256 by rw [length_bytesV]; exact hvb.1)
      have HSET := hid (secs_put (l := (Y.take j).foldl setS D.firm) (p := v.pl) (b := v.b) (foldS_all HFM.out (fun w hw => (HYB.out w (List.mem_of_mem_take hw)).1)) hvb.1 (by rw [foldS_len]; exact hlp))
      have HLEN := hid (show v.pl * 256 + 256 ≤ (secsV ((Y.take j).foldl setS D.firm)).length by
        rw [secsV_len (foldS_all HFM.out (fun w hw => (HYB.out w (List.mem_of_mem_take hw)).1)), foldS_len]
        omega)
      have HNX := hid (show (Y.take (j + 1)).foldl setS D.firm = ((Y.take j).foldl setS D.firm).set v.pl v.b by
        rw [List.take_add_one, hv, List.foldl_append]
        rfl)
      obtain ⟨SC, hSC⟩ : ∃ SC, SC = secsV ((Y.take j).foldl setS D.firm) := ⟨_, rfl⟩
      have HSC := hid hSC
      rw [← hSC] at hst HSET HLEN
      clear hv hvb HRU hlr hSC
      go_wp2_with (first | go_big_skip | go_big_guard | (refine wl_index (k := j) rfl rfl rfl rfl hlj ?_) | (refine wl_loadE rfl rfl rfl ?_; refine ⟨_, Loads.range (T := 149) (cs := v.cells) (by rw [HV258.out]; exact TyA.out) HWR.out, ?_⟩) | (refine wl_alloc (T := 149) hst rfl rfl ?_; intro g9 _ hst2; clear hst) | (refine wl_storeA (T := 149) (vs := v.cells) [] hst2 rfl rfl rfl rfl HV258.out (ones_LW _) (by rw [List.length_cons, List.length_cons, List.length_replicate]) ?_; intro w4 hst3; clear hst2))
      have hW := hst3.drew
      clear hst3
      refine wp_region_held_drew (S := (fun w' => (loadVarH 106 ⟨ga, 0, none⟩).run Tryz.prog w' = .ok (.slice (some ⟨x.gd, 0, none⟩) a1.devs.length x.cd) w' ∧ (loadVarH 3 ⟨g3, 0, none⟩).run Tryz.prog w' = .ok (.int .i64 (k : Int)) w' ∧ (loadVarH 86 ⟨x.gd, k * 5, none⟩).run Tryz.prog w' = .ok (.slice (some ⟨D.g, 0, none⟩) D.firm.length D.firm.length) w' ∧ (loadVarH 3 ⟨g9, 1, none⟩).run Tryz.prog w' = .ok (.int .i64 (v.pl : Int)) w' ∧ (loadVarH 144 ⟨g9, 2, none⟩).run Tryz.prog w' = .ok (.agg (List.toArray (bytesV v.b))) w')) (by kernel_rfl) (by exact ⟨ldS [_, _, _, _] hW (rfl), ldS [_, _, _] hW (rfl), ldS [_, _, _, _, _] hW (HDC.out), ldS [] hW (rfl), ldA (bytesV v.b) [] hW (HB256.out) (by show (bytesV v.b).take _ = _; exact List.take_length)⟩) (fun hHeld => ?_)
      refine tkH 0 44 ?_ rfl (by kernel_rfl) (fun _ _ _ h => h) (by rfl) (by assumption) ?_ ?_
      rotate_left
      · intro w hSw; (try dsimp only at hSw); go_simp; try with_reducible rfl
      (try simp only [pmL, pnL, sc0, sc1])
      refine tkH 4 48 ?_ rfl (by kernel_rfl) (fun _ _ _ h => h) (by rfl) (by assumption) ?_ ?_
      rotate_left
      · intro w hSw; (try dsimp only at hSw); go_simp; try with_reducible rfl
      (try simp only [pmL, pnL, sc0, sc1])
      refine tkH 8 52 ?_ rfl (by kernel_rfl) (fun _ _ _ h => h) (by rfl) (by assumption) ?_ ?_
      rotate_left
      · intro w hSw; (try dsimp only at hSw); go_simp; try with_reducible rfl
      (try simp only [pmL, pnL, sc0, sc1])
      refine tkH 10 54 ?_ rfl (by kernel_rfl) (fun _ _ _ h => h) (by rfl) (by assumption) ?_ ?_
      rotate_left
      · intro w hSw; (try dsimp only at hSw); go_simp; try with_reducible rfl
      (try simp only [pmL, pnL, sc0, sc1])
      refine tkH 1 45 ?_ rfl (by kernel_rfl) (fun _ _ _ h => h) (by rfl) (by assumption) ?_ ?_
      rotate_left
      · intro w hSw; (try dsimp only at hSw); go_simp; try with_reducible rfl
      (try simp only [pmL, pnL, sc0, sc1])
      refine tkH 9 53 ?_ rfl (by kernel_rfl) (fun _ _ _ h => h) (by rfl) (by assumption) ?_ ?_
      rotate_left
      · intro w hSw; (try dsimp only at hSw); go_simp; try with_reducible rfl
      (try simp only [pmL, pnL, sc0, sc1])
      refine tkH 11 55 ?_ rfl (by kernel_rfl) (fun _ _ _ h => h) (by rfl) (by assumption) ?_ ?_
      rotate_left
      · intro w hSw; (try dsimp only at hSw); go_simp; try with_reducible rfl
      (try simp only [pmL, pnL, sc0, sc1])
      refine tkH 2 46 ?_ rfl (by kernel_rfl) (fun _ _ _ h => h) (by rfl) (by assumption) ?_ ?_
      rotate_left
      · intro w hSw; (try dsimp only at hSw); go_simp; try with_reducible rfl
      (try simp only [pmL, pnL, sc0, sc1])
      refine tkH 3 47 ?_ rfl (by kernel_rfl) (fun _ _ _ h => h) (by rfl) (by assumption) ?_ ?_
      rotate_left
      · intro w hSw; (try dsimp only at hSw); go_simp; try with_reducible rfl
      (try simp only [pmL, pnL, sc0, sc1])
      refine tkH 5 49 ?_ rfl (by kernel_rfl) (fun _ _ _ h => h) (by rfl) (by assumption) ?_ ?_
      rotate_left
      · intro w hSw; (try dsimp only at hSw); go_simp; try with_reducible rfl
      (try simp only [pmL, pnL, sc0, sc1])
      refine tkH 6 50 ?_ rfl (by kernel_rfl) (fun _ _ _ h => h) (by rfl) (by assumption) ?_ ?_
      rotate_left
      · intro w hSw; (try dsimp only at hSw); go_simp; try with_reducible rfl
      (try simp only [pmL, pnL, sc0, sc1])
      refine tkH 7 51 ?_ rfl (by kernel_rfl) (fun _ _ _ h => h) (by rfl) (by assumption) ?_ ?_
      rotate_left
      · intro w hSw; (try dsimp only at hSw); go_simp; try with_reducible rfl
      (try simp only [pmL, pnL, sc0, sc1])
      refine tkH 12 56 ?_ rfl (by kernel_rfl) (fun _ _ _ h => h) (by rfl) (by assumption) ?_ ?_
      rotate_left
      · intro w hSw; (try dsimp only at hSw); go_simp; try with_reducible rfl
      (try simp only [pmL, pnL, sc0, sc1])
      refine wpAnyH_ready (rs := [13]) (by kernel_rfl) (by simp) ?_
      refine (AllReadyH.cons (o := ⟨none, _, _, _, _, _⟩) rfl (fun K hK => ?_) AllReadyH.nil)
      rw [if_pos (by rfl)]
      refine ow_of_wl (ops := #[]) (by rfl) ?_
      refine wl_store (T := 144) ([_, _, _, _, _, _, _] ++ FS1) hW rfl rfl rfl (v := .agg (bytesV v.b).toArray) (n := 256) rfl (by show (bytesV v.b).toArray.size = 256; rw [List.size_toArray]; exact HB256.out) (ones_bytesV _) (by show v.pl * 256 + (bytesV v.b).toArray.size ≤ _; rw [List.size_toArray, HB256.out]; exact HLEN.out) ?_
      intro w13 hZ3
      refine q0_nil ?_
      refine hK.out _ _ ?_ (fun hHeld => ?_)
      · exact ⟨ldS [_, _, _, _] hZ3 (rfl), ldS [_, _, _] hZ3 (rfl), ldS [_, _, _, _, _] hZ3 (HDC.out), ldS [] hZ3 (rfl), ldA (bytesV v.b) [] hZ3 (HB256.out) (by show (bytesV v.b).take _ = _; exact List.take_length)⟩
      clear hK K
      (try simp only [pmL, pnL, sc0, sc1])
      refine wpAnyH_done (by kernel_rfl) ?_ _
      clear hHeld
      go_wp2_with (first | go_big_skip | go_big_guard | fail)
      go_roundw
      case rel =>
        refine ⟨j + 1, by omega, rfl, ?_⟩
        rw [HNX.out, ← HSET.out]
        exact St.sub hZ3 (.cons _ (List.Sublist.refl _))
      case measure => simp [intOf]; omega
    · have d1 : decide ((j : Int) < (Y.length : Int)) = false := decide_eq_false (by omega)
      have HJ := hid (show Y.take j = Y from List.take_of_length_le (by omega))
      go_wp2_with (first | go_big_skip | go_big_guard | (refine wl_store [_, _, _] hst rfl rfl rfl (v := .slice _ _ _) rfl rfl rfl (by show (1 : Nat) + 1 ≤ 5; decide) ?_; intro w7 hst7; clear hst))
      go_ret
      rw [HJ.out] at hst7
      refine ⟨rfl, ⟨x.gd, x.cd, x.rest, .slice va Z.length vc⟩, ?_⟩
      rw [HFIN.out]
      exact St.sub (St.front (L1 := [_, _, _, _, _]) (St.front (L1 := [_, _, _, _, _]) (St.front (L1 := [_, _, _]) (St.front (L1 := [_, _]) (St.front (L1 := [_, _, _]) (St.front (L1 := [_, _, _, _, _]) hst7)))))) (.cons_cons _ (.cons_cons _ (.cons_cons _ (.cons _ (.cons _ (.cons _ (List.Sublist.refl _)))))))
end
theorem flushM_any {w : World} {ga : Nat} {x : GA} {a : AR} (hS : St w (arF ga x a) w (arP ga x a)) (ok : a.Ok) (hs : 0 ≤ a.steps ∧ a.steps < 4611686018427387904) (hll : a.loose.length < 1000000) (dev : Int) :
    Calls Tryz.prog 52 #[.pointer (some ⟨ga, 0, none⟩), .int .i64 dev] w fun e w' => e = .returned (.int .i64 (a.flushE dev)) ∧ ∃ x', St w (arF ga x a) w' (arP ga x' (a.flush dev)) := by
  by_cases h1 : firstE (flushL a dev) = 0
  · by_cases h2 : a.fuse = 0
    · exact flush_outM hS ok hs hll dev h1 h2
    · obtain ⟨k, rfl⟩ : ∃ k : Nat, dev = k := ⟨dev.toNat, by have := (inD_dev (flush_ok ok.d0 h1).1).1; omega⟩
      exact flush_fineM hS ok hs hll k h1 h2
  · exact flush_badM hS ok hs hll dev h1
end Go.Proofs.YtmdfbdfijnmhkaaGreat
