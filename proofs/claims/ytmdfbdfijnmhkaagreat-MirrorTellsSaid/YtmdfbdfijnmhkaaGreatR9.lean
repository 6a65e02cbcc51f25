import Derived.Test.YtmdfbdfijnmhkaaGreatR8
namespace Go.Proofs.YtmdfbdfijnmhkaaGreat
set_option linter.unusedVariables false
set_option linter.unusedSimpArgs false
open Go.RowKit Hp
attribute [local irreducible] Go.Calls Go.wpList
set_option maxRecDepth 100000
set_option maxHeartbeats 4000000
def arF (ga : Nat) (x : GA) (a : AR) : List Nat := (arP ga x a).filterMap HA.foot
theorem ldOAM {w0 w : World} {M : List Nat} {L : List HA} {T : TypeId} {b off n : Nat} {cs : List Value} (hst : St w0 M w L) [ht : TyA Tryz.prog T n] (hn : cs.length = n) (h : w0.rangeAt b off cs) (hM : b ∉ M) : (loadVarH T ⟨b, off, none⟩).run Tryz.prog w = .ok (.agg cs.toArray) w :=
  Loads.range (by rw [hn]; exact ht.out) (fun j v hv => hst.old_cell (h j v hv) hM)
section
theorem loadedSW (A : Addr) : loadVar 107 A = loadVarH 107 A := rfl
theorem loadedSB (A : Addr) : loadVar 28 A = loadVarH 28 A := rfl
theorem loadedSe (A : Addr) : loadVar 144 A = loadVarH 144 A := rfl
attribute [local go_sem ↓] loadedSW loadedSB loadedSe
theorem write_no {w : World} {ga : Nat} {x : GA} {a : AR} (hS : St w (arF ga x a) w (arP ga x a)) (ok : a.Ok) (hs : 0 ≤ a.steps ∧ a.steps < 4611686018427387904) (dev pl : Int) (ao : Option Addr) (n c : Nat) (bs : List UInt8) (hr : Rd w (.slice ao n c) 1 n (bytesV bs)) (hn : bs.length = n) (ho : Off (.slice ao n c) (arF ga x a)) (h1 : firstE (writeL a dev pl n) ≠ 0) :
    Calls Tryz.prog 44 #[.pointer (some ⟨ga, 0, none⟩), .int .i64 dev, .int .i64 pl, .slice ao n c] w fun e w' => e = .returned (.int .i64 (a.writeE dev pl bs)) ∧ ∃ x', St w (arF ga x a) w' (arP ga x' (a.write dev pl bs)) := by
  have hb := write_bad (b := bs) (dev := dev) (pl := pl) ok.d0 (by rw [hn]; exact h1)
  rw [hn] at hb
  rw [hb.1, hb.2]
  have HE := hid (firstE_isE (writeL_isE a dev pl n) h1)
  have H1 := hid h1
  clear hb h1 hr hn ho
  have hst0 := hS
  have OK := hid ok
  have hmf := rmf
  clear hS ok
  go_enter Tryz.func44, Tryz.ntmps44
  go_wp2_with (first | go_big_skip | go_big_guard | (refine wl_box hst0 rfl rfl rfl ?_; intro g7 w1 hst1; clear hst0) | (go_at_call 87; refine (isSector_any ga dev pl _).mono ?_; rintro _ w2 ⟨g0, g1, g2, rfl, h4⟩; have hst2 := St.call hst1 h4; clear h4 hst1) | (go_at_call 89; refine (isHere_any ga dev _).mono ?_; rintro _ w3 ⟨k0, k1, rfl, h4⟩; have hst3 := St.call hst2 h4; clear h4 hst2) | (apply wl_bsX ([methV 46 (ptrV ga), methV 88 (ptrV ga), cloV 138 [ptrV g0, ptrV g1, ptrV g2], cloV 97 [ptrV g7], cloV 139 [ptrV k0, ptrV k1], methV 98 (ptrV ga)]) ([methV 46 (ptrV ga), methV 88 (ptrV ga), cloV 138 [ptrV g0, ptrV g1, ptrV g2], cloV 97 [ptrV g7], cloV 139 [ptrV k0, ptrV k1], methV 98 (ptrV ga)]) hst3; rfl; rfl; exact rfl; exact rfl; infer_instance; infer_instance; rfl; rfl; rfl; intro gs w4 hst4; clear hst3) | (go_at_call 45; have hC := checks_any dev (v := .slice (some ⟨gs, 0, none⟩) 6 6) (n := 6) (fs := [methV 46 (ptrV ga), methV 88 (ptrV ga), cloV 138 [ptrV g0, ptrV g1, ptrV g2], cloV 97 [ptrV g7], cloV 139 [ptrV k0, ptrV k1]]) (f9 := methV 98 (ptrV ga)) (es := writeL a dev pl n) (e9 := a.stepE) (A := (fun w' => St w (arF ga x a) w' (([HA.blk gs 92 ([methV 46 (ptrV ga), methV 88 (ptrV ga), cloV 138 [ptrV g0, ptrV g1, ptrV g2], cloV 97 [ptrV g7], cloV 139 [ptrV k0, ptrV k1], methV 98 (ptrV ga)]), .blk k1 3 [.int .i64 dev], .blk k0 23 [.pointer (some ⟨ga, 0, none⟩)], .blk g2 3 [.int .i64 pl], .blk g1 3 [.int .i64 dev], .blk g0 23 [.pointer (some ⟨ga, 0, none⟩)], .blk g7 28 [.slice ao n c]] : List HA) ++ arP ga x a))) (B := (fun w' => St w (arF ga x a) w' (([HA.blk gs 92 ([methV 46 (ptrV ga), methV 88 (ptrV ga), cloV 138 [ptrV g0, ptrV g1, ptrV g2], cloV 97 [ptrV g7], cloV 139 [ptrV k0, ptrV k1], methV 98 (ptrV ga)]), .blk k1 3 [.int .i64 dev], .blk k0 23 [.pointer (some ⟨ga, 0, none⟩)], .blk g2 3 [.int .i64 pl], .blk g1 3 [.int .i64 dev], .blk g0 23 [.pointer (some ⟨ga, 0, none⟩)], .blk g7 28 [.slice ao n c]] : List HA) ++ arP ga x a.step))) w4 (fun _ h => Rd.blk h (.head _) (Nat.le_refl _) (by decide) rfl rfl) rfl rfl (by decide) (write_probes (fun _ h => ArrAt.of h (fun p hp => List.mem_append_right _ hp) OK.out.d0) keeps_st (fun _ h => St.cell h (off := 0) (.tail _ (.tail _ (.tail _ (.tail _ (.tail _ (.tail _ (.head _))))))) rfl) (fun _ h => St.cell h (off := 0) (.tail _ (.tail _ (.tail _ (.tail _ (.tail _ (.head _)))))) rfl) (fun _ h => St.cell h (off := 0) (.tail _ (.tail _ (.tail _ (.tail _ (.head _))))) rfl) (fun _ h => St.cell h (off := 0) (.tail _ (.tail _ (.tail _ (.head _)))) rfl) (fun _ h => St.cell h (off := 0) (.tail _ (.tail _ (.head _))) rfl) (fun _ h => St.cell h (off := 0) (.tail _ (.head _)) rfl)) (fun _ => probe_step (L1 := ([HA.blk gs 92 ([methV 46 (ptrV ga), methV 88 (ptrV ga), cloV 138 [ptrV g0, ptrV g1, ptrV g2], cloV 97 [ptrV g7], cloV 139 [ptrV k0, ptrV k1], methV 98 (ptrV ga)]), .blk k1 3 [.int .i64 dev], .blk k0 23 [.pointer (some ⟨ga, 0, none⟩)], .blk g2 3 [.int .i64 pl], .blk g1 3 [.int .i64 dev], .blk g0 23 [.pointer (some ⟨ga, 0, none⟩)], .blk g7 28 [.slice ao n c]] : List HA)) (ga := ga) (x := x) hs OK.out.fu) hst4; refine hC.mono ?_; rintro _ w5 hh; obtain ⟨rfl, h4⟩ := checks_bad H1.out hh; clear hC hh hst4; have hst5 := h4; clear h4; obtain ⟨E, hE⟩ : ∃ E, E = firstE (writeL a dev pl n) := ⟨_, rfl⟩; have HQ := hid hE; rw [← hE] at HE H1; rw [← hE]; clear hE) | (go_at_call 47; refine (number_isE E dev HE.out H1.out _).mono ?_; rintro _ w6 ⟨rfl, h4⟩; have hst6 := St.call0 hst5 h4; clear h4 hst5))
  go_ret
  rw [← HQ.out]
  exact ⟨rfl, x, St.sub hst6 (List.sublist_append_right _ _)⟩
theorem write_out {w : World} {ga : Nat} {x : GA} {a : AR} (hS : St w (arF ga x a) w (arP ga x a)) (ok : a.Ok) (hs : 0 ≤ a.steps ∧ a.steps < 4611686018427387904) (dev pl : Int) (ao : Option Addr) (n c : Nat) (bs : List UInt8) (hr : Rd w (.slice ao n c) 1 n (bytesV bs)) (hn : bs.length = n) (ho : Off (.slice ao n c) (arF ga x a)) (h1 : firstE (writeL a dev pl n) = 0) (h2 : a.fuse = 0) :
    Calls Tryz.prog 44 #[.pointer (some ⟨ga, 0, none⟩), .int .i64 dev, .int .i64 pl, .slice ao n c] w fun e w' => e = .returned (.int .i64 (a.writeE dev pl bs)) ∧ ∃ x', St w (arF ga x a) w' (arP ga x' (a.write dev pl bs)) := by
  have hb := write_ok (b := bs) (dev := dev) (pl := pl) ok.d0 (by rw [hn]; exact h1)
  have he : a.stepE = 10 := by unfold AR.stepE; rw [if_pos h2]
  rw [hb.2.2.2.2.1, hb.2.2.2.2.2, if_pos h2, he]
  have H1 := hid h1
  have HE := hid he
  clear hb h1 h2 he hr hn ho
  have hst0 := hS
  have OK := hid ok
  have hmf := rmf
  clear hS ok
  go_enter Tryz.func44, Tryz.ntmps44
  go_wp2_with (first | go_big_skip | go_big_guard | (refine wl_box hst0 rfl rfl rfl ?_; intro g7 w1 hst1; clear hst0) | (go_at_call 87; refine (isSector_any ga dev pl _).mono ?_; rintro _ w2 ⟨g0, g1, g2, rfl, h4⟩; have hst2 := St.call hst1 h4; clear h4 hst1) | (go_at_call 89; refine (isHere_any ga dev _).mono ?_; rintro _ w3 ⟨k0, k1, rfl, h4⟩; have hst3 := St.call hst2 h4; clear h4 hst2) | (apply wl_bsX ([methV 46 (ptrV ga), methV 88 (ptrV ga), cloV 138 [ptrV g0, ptrV g1, ptrV g2], cloV 97 [ptrV g7], cloV 139 [ptrV k0, ptrV k1], methV 98 (ptrV ga)]) ([methV 46 (ptrV ga), methV 88 (ptrV ga), cloV 138 [ptrV g0, ptrV g1, ptrV g2], cloV 97 [ptrV g7], cloV 139 [ptrV k0, ptrV k1], methV 98 (ptrV ga)]) hst3; rfl; rfl; exact rfl; exact rfl; infer_instance; infer_instance; rfl; rfl; rfl; intro gs w4 hst4; clear hst3) | (go_at_call 45; have hC := checks_any dev (v := .slice (some ⟨gs, 0, none⟩) 6 6) (n := 6) (fs := [methV 46 (ptrV ga), methV 88 (ptrV ga), cloV 138 [ptrV g0, ptrV g1, ptrV g2], cloV 97 [ptrV g7], cloV 139 [ptrV k0, ptrV k1]]) (f9 := methV 98 (ptrV ga)) (es := writeL a dev pl n) (e9 := a.stepE) (A := (fun w' => St w (arF ga x a) w' (([HA.blk gs 92 ([methV 46 (ptrV ga), methV 88 (ptrV ga), cloV 138 [ptrV g0, ptrV g1, ptrV g2], cloV 97 [ptrV g7], cloV 139 [ptrV k0, ptrV k1], methV 98 (ptrV ga)]), .blk k1 3 [.int .i64 dev], .blk k0 23 [.pointer (some ⟨ga, 0, none⟩)], .blk g2 3 [.int .i64 pl], .blk g1 3 [.int .i64 dev], .blk g0 23 [.pointer (some ⟨ga, 0, none⟩)], .blk g7 28 [.slice ao n c]] : List HA) ++ arP ga x a))) (B := (fun w' => St w (arF ga x a) w' (([HA.blk gs 92 ([methV 46 (ptrV ga), methV 88 (ptrV ga), cloV 138 [ptrV g0, ptrV g1, ptrV g2], cloV 97 [ptrV g7], cloV 139 [ptrV k0, ptrV k1], methV 98 (ptrV ga)]), .blk k1 3 [.int .i64 dev], .blk k0 23 [.pointer (some ⟨ga, 0, none⟩)], .blk g2 3 [.int .i64 pl], .blk g1 3 [.int .i64 dev], .blk g0 23 [.pointer (some ⟨ga, 0, none⟩)], .blk g7 28 [.slice ao n c]] : List HA) ++ arP ga x a.step))) w4 (fun _ h => Rd.blk h (.head _) (Nat.le_refl _) (by decide) rfl rfl) rfl rfl (by decide) (write_probes (fun _ h => ArrAt.of h (fun p hp => List.mem_append_right _ hp) OK.out.d0) keeps_st (fun _ h => St.cell h (off := 0) (.tail _ (.tail _ (.tail _ (.tail _ (.tail _ (.tail _ (.head _))))))) rfl) (fun _ h => St.cell h (off := 0) (.tail _ (.tail _ (.tail _ (.tail _ (.tail _ (.head _)))))) rfl) (fun _ h => St.cell h (off := 0) (.tail _ (.tail _ (.tail _ (.tail _ (.head _))))) rfl) (fun _ h => St.cell h (off := 0) (.tail _ (.tail _ (.tail _ (.head _)))) rfl) (fun _ h => St.cell h (off := 0) (.tail _ (.tail _ (.head _))) rfl) (fun _ h => St.cell h (off := 0) (.tail _ (.head _)) rfl)) (fun _ => probe_step (L1 := ([HA.blk gs 92 ([methV 46 (ptrV ga), methV 88 (ptrV ga), cloV 138 [ptrV g0, ptrV g1, ptrV g2], cloV 97 [ptrV g7], cloV 139 [ptrV k0, ptrV k1], methV 98 (ptrV ga)]), .blk k1 3 [.int .i64 dev], .blk k0 23 [.pointer (some ⟨ga, 0, none⟩)], .blk g2 3 [.int .i64 pl], .blk g1 3 [.int .i64 dev], .blk g0 23 [.pointer (some ⟨ga, 0, none⟩)], .blk g7 28 [.slice ao n c]] : List HA)) (ga := ga) (x := x) hs OK.out.fu) hst4; rw [HE.out] at hC; refine hC.mono ?_; rintro _ w5 hh; obtain ⟨rfl, h4⟩ := checks_last H1.out (by decide) hh; clear hC hh hst4; have hst5 := h4; clear h4) | (go_at_call 47; refine (number_isE 10 dev (by unfold isE; decide) (by decide) _).mono ?_; rintro _ w6 ⟨rfl, h4⟩; have hst6 := St.call0 hst5 h4; clear h4 hst5))
  go_ret
  exact ⟨rfl, x, St.sub hst6 (List.sublist_append_right _ _)⟩
end
end Go.Proofs.YtmdfbdfijnmhkaaGreat
