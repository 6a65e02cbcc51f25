import Derived.Test.YtmdfbdfijnmhkaaGreatR4
namespace Go.Proofs.YtmdfbdfijnmhkaaGreat
set_option linter.unusedVariables false
set_option linter.unusedSimpArgs false
open Go.RowKit Hp
attribute [local irreducible] Go.Calls Go.wpList
set_option maxRecDepth 100000
set_option maxHeartbeats 4000000
def ptrV (g : Nat) : Value := .pointer (some ⟨g, 0, none⟩)
def cloV (fn : Nat) (cap : List Value) : Value := .func (.func fn) #[] cap.toArray
def methV (fn : Nat) (r : Value) : Value := .func (.func fn) #[r] #[]
theorem rmf (fn : Fn) (first cap : Array Value) (w : World) : (Instr.makeFunc fn first cap).run Tryz.prog w = .ok (.func fn first cap) w := rfl
theorem isDevice_any (ga : Nat) (dev : Int) (w : World) : Calls Tryz.prog 40 #[.pointer (some ⟨ga, 0, none⟩), .int .i64 dev] w fun e w' => ∃ g0 g1, e = .returned (cloV 93 [ptrV g0, ptrV g1]) ∧ St w [] w' [.blk g1 3 [.int .i64 dev], .blk g0 23 [.pointer (some ⟨ga, 0, none⟩)]] := by
  have hmf := rmf
  have hst := St.refl w
  go_enter Tryz.func40, Tryz.ntmps40
  go_wp2_with (first | go_big_skip | go_big_guard | (refine wl_box hst rfl rfl rfl ?_; intro g0 w1 hst1; clear hst) | (refine wl_box hst1 rfl rfl rfl ?_; intro g1 w2 hst2; clear hst1))
  go_ret
  exact ⟨g0, g1, rfl, hst2⟩
theorem isHere_any (ga : Nat) (dev : Int) (w : World) : Calls Tryz.prog 89 #[.pointer (some ⟨ga, 0, none⟩), .int .i64 dev] w fun e w' => ∃ g0 g1, e = .returned (cloV 139 [ptrV g0, ptrV g1]) ∧ St w [] w' [.blk g1 3 [.int .i64 dev], .blk g0 23 [.pointer (some ⟨ga, 0, none⟩)]] := by
  have hmf := rmf
  have hst := St.refl w
  go_enter Tryz.func89, Tryz.ntmps89
  go_wp2_with (first | go_big_skip | go_big_guard | (refine wl_box hst rfl rfl rfl ?_; intro g0 w1 hst1; clear hst) | (refine wl_box hst1 rfl rfl rfl ?_; intro g1 w2 hst2; clear hst1))
  go_ret
  exact ⟨g0, g1, rfl, hst2⟩
theorem isSector_any (ga : Nat) (dev pl : Int) (w : World) : Calls Tryz.prog 87 #[.pointer (some ⟨ga, 0, none⟩), .int .i64 dev, .int .i64 pl] w fun e w' => ∃ g0 g1 g2, e = .returned (cloV 138 [ptrV g0, ptrV g1, ptrV g2]) ∧ St w [] w' [.blk g2 3 [.int .i64 pl], .blk g1 3 [.int .i64 dev], .blk g0 23 [.pointer (some ⟨ga, 0, none⟩)]] := by
  have hmf := rmf
  have hst := St.refl w
  go_enter Tryz.func87, Tryz.ntmps87
  go_wp2_with (first | go_big_skip | go_big_guard | (refine wl_box hst rfl rfl rfl ?_; intro g0 w1 hst1; clear hst) | (refine wl_box hst1 rfl rfl rfl ?_; intro g1 w2 hst2; clear hst1) | (refine wl_box hst2 rfl rfl rfl ?_; intro g2 w3 hst3; clear hst2))
  go_ret
  exact ⟨g0, g1, g2, rfl, hst3⟩
theorem isDevice1_any {w : World} {ga : Nat} {x : GA} {a : AR} (h : ArrAt w ga x a) {g0 g1 : Nat} {dev : Int} (hb0 : w.cell? ⟨g0, 0, none⟩ = some (.pointer (some ⟨ga, 0, none⟩))) (hb1 : w.cell? ⟨g1, 0, none⟩ = some (.int .i64 dev)) : Calls Tryz.prog 93 #[ptrV g0, ptrV g1] w fun e w' => e = .returned (.int .i64 (orE (a.inD dev) 5)) ∧ St w [] w' [] := by
  have hst := St.refl w
  have H := hid h
  have HB0 := hid hb0
  have HB1 := hid hb1
  clear h hb0 hb1
  unfold ptrV
  go_enter Tryz.func93, Tryz.ntmps93
  go_wp2_with (first | go_big_skip | go_big_guard | (refine wl_loadE rfl rfl rfl ?_; first | refine ⟨_, Loads.old hst HB0.out, ?_⟩ | refine ⟨_, Loads.old hst HB1.out, ?_⟩) | (go_at_call 94; refine (device_any (ArrAt.later hst H.out) dev).mono ?_; rintro _ w9 ⟨rfl, h4⟩; replace hst := St.call0 hst h4; clear h4) | (go_at_call 85; refine (unless_any _ _ _).mono ?_; rintro _ w9 ⟨rfl, h4⟩; replace hst := St.call0 hst h4; clear h4))
  go_ret
  exact ⟨rfl, hst⟩
theorem isSector1_any {w : World} {ga : Nat} {x : GA} {a : AR} (h : ArrAt w ga x a) {g0 g1 g2 : Nat} {dev pl : Int} (hb0 : w.cell? ⟨g0, 0, none⟩ = some (.pointer (some ⟨ga, 0, none⟩))) (hb1 : w.cell? ⟨g1, 0, none⟩ = some (.int .i64 dev)) (hb2 : w.cell? ⟨g2, 0, none⟩ = some (.int .i64 pl)) : Calls Tryz.prog 138 #[ptrV g0, ptrV g1, ptrV g2] w fun e w' => e = .returned (.int .i64 (orE (a.inS dev pl) 5)) ∧ St w [] w' [] := by
  have hst := St.refl w
  have H := hid h
  have HB0 := hid hb0
  have HB1 := hid hb1
  have HB2 := hid hb2
  clear h hb0 hb1 hb2
  unfold ptrV
  go_enter Tryz.func138, Tryz.ntmps138
  go_wp2_with (first | go_big_skip | go_big_guard | (refine wl_loadE rfl rfl rfl ?_; first | refine ⟨_, Loads.old hst HB0.out, ?_⟩ | refine ⟨_, Loads.old hst HB1.out, ?_⟩ | refine ⟨_, Loads.old hst HB2.out, ?_⟩) | (go_at_call 49; refine (sector_any (ArrAt.later hst H.out) dev pl).mono ?_; rintro _ w9 ⟨rfl, h4⟩; replace hst := St.call0 hst h4; clear h4) | (go_at_call 85; refine (unless_any _ _ _).mono ?_; rintro _ w9 ⟨rfl, h4⟩; replace hst := St.call0 hst h4; clear h4))
  go_ret
  exact ⟨rfl, hst⟩
section
theorem loadedPA (A : Addr) : loadVar 23 A = loadVarH 23 A := rfl
theorem loadedSD (A : Addr) : loadVar 106 A = loadVarH 106 A := rfl
theorem loadedIn (A : Addr) : loadVar 3 A = loadVarH 3 A := rfl
theorem loadedBo (A : Addr) : loadVar 4 A = loadVarH 4 A := rfl
attribute [local go_sem ↓] loadedPA loadedSD loadedIn loadedBo
theorem isHere1_any {w : World} {ga : Nat} {x : GA} {a : AR} (h : ArrAt w ga x a) {g0 g1 : Nat} {dev : Int} (hb0 : w.cell? ⟨g0, 0, none⟩ = some (.pointer (some ⟨ga, 0, none⟩))) (hb1 : w.cell? ⟨g1, 0, none⟩ = some (.int .i64 dev)) (hd : a.inD dev = true) : Calls Tryz.prog 139 #[ptrV g0, ptrV g1] w fun e w' => e = .returned (.int .i64 (orE (!(a.dv dev).gone) 14)) ∧ St w [] w' [] := by
  have hst := St.refl w
  have H0 := hid h.c0
  have hdg := devs_get hd
  have HG := hid (h.dcell hdg (i := 1) rfl (by decide))
  have hlt : dev.toNat < a.devs.length := (List.getElem?_eq_some_iff.1 hdg).1
  obtain ⟨k, hk⟩ : ∃ k : Nat, k = dev.toNat := ⟨_, rfl⟩
  have hdev : dev = (k : Int) := by
    unfold AR.inD at hd
    simp only [Bool.and_eq_true, decide_eq_true_eq] at hd
    omega
  rw [← hk] at HG hlt
  obtain ⟨a9, ha9⟩ : ∃ a9, a9 = (a.dv dev).gone := ⟨_, rfl⟩
  rw [← ha9] at HG ⊢
  rw [hdev] at hb1
  have HB0 := hid hb0
  have HB1 := hid hb1
  clear h hb0 hb1 hd hdg hk hdev ha9
  unfold ptrV
  go_enter Tryz.func139, Tryz.ntmps139
  go_wp2_with (first | go_big_skip | go_big_guard | fail)
  have hX := hst.drew
  clear hst
  refine wp_region_held_drew (S := (fun w' => (loadVarH 23 ⟨g0, 0, none⟩).run Tryz.prog w' = .ok (.pointer (some ⟨ga, 0, none⟩)) w' ∧ (loadVarH 3 ⟨g1, 0, none⟩).run Tryz.prog w' = .ok (.int .i64 (k : Int)) w' ∧ (loadVarH 106 ⟨ga, 0, none⟩).run Tryz.prog w' = .ok (.slice (some ⟨x.gd, 0, none⟩) a.devs.length x.cd) w' ∧ (loadVarH 4 ⟨x.gd, k * 5 + 1, none⟩).run Tryz.prog w' = .ok (.bool a9) w')) (by kernel_rfl) (by exact ⟨ldO hX (HB0.out), ldO hX (HB1.out), ldO hX (H0.out), ldO hX (HG.out)⟩) (fun hHeld => ?_)
  refine tkH 0 3 ?_ rfl (by kernel_rfl) (fun _ _ _ h => h) (by rfl) (by assumption) ?_ ?_
  rotate_left
  · intro w hSw; (try dsimp only at hSw); go_simp; try with_reducible rfl
  (try simp only [pmL, pnL, sc0, sc1])
  refine tkH 4 7 ?_ rfl (by kernel_rfl) (fun _ _ _ h => h) (by rfl) (by assumption) ?_ ?_
  rotate_left
  · intro w hSw; (try dsimp only at hSw); go_simp; try with_reducible rfl
  (try simp only [pmL, pnL, sc0, sc1])
  refine tkH 1 4 ?_ rfl (by kernel_rfl) (fun _ _ _ h => h) (by rfl) (by assumption) ?_ ?_
  rotate_left
  · intro w hSw; (try dsimp only at hSw); go_simp; try with_reducible rfl
  (try simp only [pmL, pnL, sc0, sc1])
  refine tkH 2 5 ?_ rfl (by kernel_rfl) (fun _ _ _ h => h) (by rfl) (by assumption) ?_ ?_
  rotate_left
  · intro w hSw; (try dsimp only at hSw); go_simp; try with_reducible rfl
  (try simp only [pmL, pnL, sc0, sc1])
  refine tkH 3 6 ?_ rfl (by kernel_rfl) (fun _ _ _ h => h) (by rfl) (by assumption) ?_ ?_
  rotate_left
  · intro w hSw; (try dsimp only at hSw); go_simp; try with_reducible rfl
  (try simp only [pmL, pnL, sc0, sc1])
  refine tkH 5 8 ?_ rfl (by kernel_rfl) (fun _ _ _ h => h) (by rfl) (by assumption) ?_ ?_
  rotate_left
  · intro w hSw; (try dsimp only at hSw); go_simp; try with_reducible rfl
  (try simp only [pmL, pnL, sc0, sc1])
  refine tkH 6 9 ?_ rfl (by kernel_rfl) (fun _ _ _ h => h) (by rfl) (by assumption) ?_ ?_
  rotate_left
  · intro w hSw; (try dsimp only at hSw); go_simp; try with_reducible rfl
  (try simp only [pmL, pnL, sc0, sc1])
  refine tkH 7 10 ?_ rfl (by kernel_rfl) (fun _ _ _ h => h) (by rfl) (by assumption) ?_ ?_
  rotate_left
  · intro w hSw; (try dsimp only at hSw); go_simp; try with_reducible rfl
  (try simp only [pmL, pnL, sc0, sc1])
  refine tkH 8 11 ?_ rfl (by kernel_rfl) (fun _ _ _ h => h) (by rfl) (by assumption) ?_ ?_
  rotate_left
  · intro w hSw; (try dsimp only at hSw); go_simp; try with_reducible rfl
  (try simp only [pmL, pnL, sc0, sc1])
  refine wpAnyH_ready (rs := [9]) (by kernel_rfl) (by simp) ?_
  refine (AllReadyH.cons (o := ⟨some 12, _, _, _, _, _⟩) rfl (fun K hK => ?_) AllReadyH.nil)
  rw [if_pos (by rfl)]
  go_simp
  go_at_call 85
  refine (unless_any _ _ _).mono ?_
  rintro _ w9 ⟨rfl, h4⟩
  have hE := St.call0 hX h4
  clear h4
  refine hK.out _ _ ?_ (fun hHeld => ?_)
  · exact ⟨ldO hE (HB0.out), ldO hE (HB1.out), ldO hE (H0.out), ldO hE (HG.out)⟩
  clear hK K
  (try simp only [pmL, pnL, sc0, sc1])
  refine tkH 10 2 ?_ rfl (by kernel_rfl) (fun _ _ _ h => h) (by rfl) (by assumption) ?_ ?_
  rotate_left
  · intro w hSw; (try dsimp only at hSw); go_simp; try with_reducible rfl
  (try simp only [pmL, pnL, sc0, sc1])
  refine wpAnyH_done (by kernel_rfl) ?_ _
  clear hHeld
  go_wp2_with (first | go_big_skip | go_big_guard | fail)
  go_ret
  exact ⟨rfl, hE⟩
end
end Go.Proofs.YtmdfbdfijnmhkaaGreat
