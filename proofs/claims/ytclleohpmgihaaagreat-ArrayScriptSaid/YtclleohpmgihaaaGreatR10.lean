/- Write: what is laid. -/
import Derived.Test.YtclleohpmgihaaaGreatR9
namespace Go.Proofs.YtclleohpmgihaaaGreat
set_option linter.unusedVariables false
set_option linter.unusedSimpArgs false
open Go.RowKit Hp
attribute [local irreducible] Go.Calls Go.wpList
set_option maxRecDepth 100000
set_option maxHeartbeats 4000000
theorem LW.cells_len {w : LW} (h : w.b.length = 256) : w.cells.length = 258 := by
  unfold LW.cells
  rw [List.length_cons, List.length_cons, length_bytesV, h]
theorem ones_LW (w : LW) : w.cells.all (·.oneCell') = true := by
  unfold LW.cells
  rw [List.all_cons, List.all_cons, ones_bytesV]
  rfl
theorem arP_laid {ga : Nat} {x : GA} {a1 a2 : AR} {lv : Value} {wr : LW} {FZ : List HA} (hF : FZ = a1.devs.map (fun d => .blk d.g 84 (secsV d.firm))) (hd : a2.devs.map (fun d => HA.blk d.g 84 (secsV d.firm)) = a1.devs.map (fun d => HA.blk d.g 84 (secsV d.firm))) (hl : a2.devs.length = a1.devs.length) :
    arP ga ⟨x.gd, x.cd, x.rest, lv⟩ ⟨a2.devs, a1.loose ++ [wr], a2.fuse, a2.out, a2.steps⟩ = .blk ga 49 [.slice (some ⟨x.gd, 0, none⟩) a1.devs.length x.cd, lv, .int .i64 a2.fuse, .bool a2.out, .int .i64 a2.steps] :: .blk x.gd 53 (devC a2 ++ x.rest) :: .row lv 86 258 (a1.loose.length + 1) (looC a1 ++ wr.cells) :: FZ := by
  unfold arP arrC devC looC
  rw [hF]
  simp only [hd, hl, List.length_append, List.length_cons, List.length_nil, List.flatMap_append, List.flatMap_cons, List.flatMap_nil, List.append_nil]
section
attribute [local go_sem ↓] loadedSW loadedSB loadedSe
theorem write_lo {w : World} {ga : Nat} {x : GA} {a : AR} (hS : St w (arF ga x a) w (arP ga x a)) (ok : a.Ok) (hs : 0 ≤ a.steps ∧ a.steps < 4611686018427387904) (hll : a.loose.length < 1000000) (k p : Nat) (ao : Option Addr) (n c : Nat) (bs : List UInt8) (hr : Rd w (.slice ao n c) 1 n (bytesV bs)) (hn : bs.length = n) (ho : Off (.slice ao n c) (arF ga x a)) (h1 : firstE (writeL a (k : Int) (p : Int) n) = 0) (h2 : a.fuse ≠ 0) (h3 : (a.dv (k : Int)).lo = true) :
    Calls Tryz.prog 11 #[.pointer (some ⟨ga, 0, none⟩), .int .i64 (k : Int), .int .i64 (p : Int), .slice ao n c] w fun e w' => e = .returned (.int .i64 (a.writeE (k : Int) (p : Int) bs)) ∧ ∃ x', St w (arF ga x a) w' (arP ga x' (a.write (k : Int) (p : Int) bs)) := by
  have hb := write_ok (b := bs) (dev := (k : Int)) (pl := (p : Int)) ok.d0 (by rw [hn]; exact h1)
  have he : a.stepE = 0 := by unfold AR.stepE; rw [if_neg h2]
  rw [hb.2.2.2.2.1, hb.2.2.2.2.2, if_neg h2, he]
  have hin : a.inD (k : Int) = true := inS_inD hb.2.1
  have hb256 : bs.length = 256 := hb.2.2.1
  obtain ⟨a1, ha1⟩ : ∃ a1, a1 = a.step := ⟨_, rfl⟩
  have e1 : a1.inD (k : Int) = true := by rw [ha1, step_inD]; exact hin
  have e2 : a1.dv (k : Int) = a.dv (k : Int) := by rw [ha1, step_dv]
  have e3 : a1.loose = a.loose := by rw [ha1, step_loose]
  have hlt : k < a1.devs.length := by have := (inD_dev e1).2; omega
  have hdf := ok.fm (a.dv (k : Int)) (List.mem_of_getElem? (devs_get hin))
  rw [← ha1]
  rw [← e2] at h3 hdf
  have HIN := hid e1
  have HLL := hid (show a1.loose.length < 1000000 by rw [e3]; exact hll)
  have HPS : Hid (∀ (M : List Nat) (L1 : List HA), Probe (methV 49 (ptrV ga)) 0 (fun w' => St w M w' (L1 ++ arP ga x a)) (fun w' => St w M w' (L1 ++ arP ga x a1))) := hid (by
    intro M L1
    have := probe_step (w0 := w) (M := M) (L1 := L1) (ga := ga) (x := x) hs ok.fu
    rw [he, ← ha1] at this
    exact this)
  obtain ⟨FZ, hFS⟩ : ∃ FZ : List HA, FZ = a1.devs.map (fun d => .blk d.g 84 (secsV d.firm)) := ⟨_, rfl⟩
  have HFS := hid hFS
  obtain ⟨b, off, rfl, hrr⟩ := Rd.at hr (k := 0) (by omega)
  have hnn : 256 ≤ n := by omega
  have hM : b ∉ arF ga x a := ho _ _ _ rfl (by omega)
  have hba : (bytesV bs).length = 256 := by rw [length_bytesV, hb256]
  have HRR := hid hrr
  have HM := hid hM
  have HBA := hid hba
  have H1 := hid h1
  have HB256 := hid hb256
  have H3 := hid h3
  have hst0 := hS
  have OK := hid ok
  have hmf := rmf
  have harr : ∀ w, (Instr.arrayAt 84 (.slice (some ⟨b, off, none⟩) n c)).run Tryz.prog w = .ok (.pointer (some ⟨b, off, none⟩)) w := fun w => run_arrayAt _ _ _ _ _ _ _ Tryz.underlying84 hnn
  have HBU := hid (built_write (d := (k : Int)) (p := (p : Int)) hb256)
  replace HBU : Hid (Tryz.prog.built 86 [(0, .int .i64 (k : Int)), (1, .int .i64 (p : Int)), (2, .agg (bytesV bs).toArray)] = some (List.toArray (LW.cells ⟨k, p, bs⟩))) := HBU
  clear hS ok hb he e2 e3 hin ha1 h1 h2 h3 hb256 hr hn ho hll hdf hrr hM hba hFS e1
  have Hne : Hid (FZ = FZ) := hid rfl
  go_enter Tryz.func11, Tryz.ntmps11
  go_wp2_with (first | go_big_skip | go_big_guard | (refine wl_box hst0 rfl rfl rfl ?_; intro g7 w1 hst1; clear hst0) | (go_at_call 47; refine (isSector_any ga (k : Int) (p : Int) _).mono ?_; rintro _ w2 ⟨g0, g1, g2, rfl, h4⟩; have hst2 := St.call hst1 h4; clear h4 hst1) | (go_at_call 48; refine (isHere_any ga (k : Int) _).mono ?_; rintro _ w3 ⟨k0, k1, rfl, h4⟩; have hst3 := St.call hst2 h4; clear h4 hst2) | (apply wl_bsX ([methV 45 (ptrV ga), methV 46 (ptrV ga), cloV 83 [ptrV g0, ptrV g1, ptrV g2], cloV 42 [ptrV g7], cloV 84 [ptrV k0, ptrV k1], methV 49 (ptrV ga)]) ([methV 45 (ptrV ga), methV 46 (ptrV ga), cloV 83 [ptrV g0, ptrV g1, ptrV g2], cloV 42 [ptrV g7], cloV 84 [ptrV k0, ptrV k1], methV 49 (ptrV ga)]) hst3; rfl; rfl; exact rfl; exact rfl; infer_instance; infer_instance; rfl; rfl; rfl; intro gs w4 hst4; clear hst3) | (go_at_call 44; have hC := checks_any (k : Int) (v := .slice (some ⟨gs, 0, none⟩) 6 6) (n := 6) (fs := [methV 45 (ptrV ga), methV 46 (ptrV ga), cloV 83 [ptrV g0, ptrV g1, ptrV g2], cloV 42 [ptrV g7], cloV 84 [ptrV k0, ptrV k1]]) (f9 := methV 49 (ptrV ga)) (es := writeL a (k : Int) (p : Int) n) (e9 := 0) (A := (fun w' => St w (arF ga x a) w' (([HA.blk gs 74 ([methV 45 (ptrV ga), methV 46 (ptrV ga), cloV 83 [ptrV g0, ptrV g1, ptrV g2], cloV 42 [ptrV g7], cloV 84 [ptrV k0, ptrV k1], methV 49 (ptrV ga)]), .blk k1 3 [.int .i64 (k : Int)], .blk k0 25 [.pointer (some ⟨ga, 0, none⟩)], .blk g2 3 [.int .i64 (p : Int)], .blk g1 3 [.int .i64 (k : Int)], .blk g0 25 [.pointer (some ⟨ga, 0, none⟩)], .blk g7 33 [.slice (some ⟨b, off, none⟩) n c]] : List HA) ++ arP ga x a))) (B := (fun w' => St w (arF ga x a) w' (([HA.blk gs 74 ([methV 45 (ptrV ga), methV 46 (ptrV ga), cloV 83 [ptrV g0, ptrV g1, ptrV g2], cloV 42 [ptrV g7], cloV 84 [ptrV k0, ptrV k1], methV 49 (ptrV ga)]), .blk k1 3 [.int .i64 (k : Int)], .blk k0 25 [.pointer (some ⟨ga, 0, none⟩)], .blk g2 3 [.int .i64 (p : Int)], .blk g1 3 [.int .i64 (k : Int)], .blk g0 25 [.pointer (some ⟨ga, 0, none⟩)], .blk g7 33 [.slice (some ⟨b, off, none⟩) n c]] : List HA) ++ arP ga x a1))) _ (fun _ h => Rd.blk h (.head _) (Nat.le_refl _) (by decide) rfl rfl) rfl rfl (by decide) (write_probes (fun _ h => ArrAt.of h (fun p hp => List.mem_append_right _ hp) OK.out.d0) keeps_st (fun _ h => St.cell h (off := 0) (.tail _ (.tail _ (.tail _ (.tail _ (.tail _ (.tail _ (.head _))))))) rfl) (fun _ h => St.cell h (off := 0) (.tail _ (.tail _ (.tail _ (.tail _ (.tail _ (.head _)))))) rfl) (fun _ h => St.cell h (off := 0) (.tail _ (.tail _ (.tail _ (.tail _ (.head _))))) rfl) (fun _ h => St.cell h (off := 0) (.tail _ (.tail _ (.tail _ (.head _)))) rfl) (fun _ h => St.cell h (off := 0) (.tail _ (.tail _ (.head _))) rfl) (fun _ h => St.cell h (off := 0) (.tail _ (.head _)) rfl)) (fun _ => HPS.out _ _) hst4; refine hC.mono ?_; rintro _ w5 hh; obtain ⟨rfl, h4⟩ := checks_fine H1.out hh; clear hC hh hst4; have hst5 : St w (arF ga x a) w5 (.blk g7 33 [.slice (some ⟨b, off, none⟩) n c] :: .blk ga 49 (arrC x a1) :: .blk x.gd 53 (devC a1 ++ x.rest) :: .row x.lv 86 258 a1.loose.length (looC a1) :: FZ) := (by rw [HFS.out]; exact St.sub h4 (.cons _ (.cons _ (.cons _ (.cons _ (.cons _ (.cons _ (List.Sublist.refl _)))))))); clear h4) | (refine wl_loadE rfl rfl rfl ?_; first | refine ⟨_, Loads.at [_] hst5 rfl, ?_⟩ | refine ⟨_, Loads.at [_, _] hst8 (devC_get (a := a2) HIN2.out HTO.out (by decide)), ?_⟩) | (refine wl_index (k := k) rfl rfl rfl rfl hlt ?_) | (go_at_call 51; refine (use1_any true (a1.dv (k : Int)).st (St.one _ _ _ _ (hst5.all (.blk x.gd _ _) (.tail _ (.tail _ (.head _))))) (devC_get HIN.out (show (a1.dv (k : Int)).cells[2]? = some (.int .u8 (b2i true 1 + b2i (a1.dv (k : Int)).st 2)) by rw [← H3.out]; rfl) (by decide))).mono ?_; rintro _ w6 ⟨rfl, h4⟩; have hst6 := St.call1 [_, _] hst5 h4; clear h4 hst5))
  go_ret
  refine ⟨rfl, x, ?_⟩
  have hput := devC_put (f := fun d => { d with lo := false }) (rest := x.rest) (v := .int .u8 (b2i false 1 + b2i (a1.dv (k : Int)).st 2)) HIN.out (i := 2) (by decide) rfl
  have e9 : a1.lay (k : Int) (p : Int) bs = a1.upd (k : Int) fun d => { d with lo := false } := by unfold AR.lay; rw [if_pos H3.out]
  rw [e9]
  have hst7 := St.sub hst6 (.cons _ (List.Sublist.refl _))
  have hF : (a1.upd (k : Int) fun d => { d with lo := false }).devs.map (fun d => HA.blk d.g 84 (secsV d.firm)) = a1.devs.map (fun d => HA.blk d.g 84 (secsV d.firm)) := upd_map _ _ _ _ (fun _ => rfl)
  unfold arP
  rw [hF, ← hput, ← HFS.out]
  have hl : (a1.upd (k : Int) fun d => { d with lo := false }).devs.length = a1.devs.length := by unfold AR.upd; simp
  unfold arrC
  rw [hl]
  exact hst7
theorem write_st {w : World} {ga : Nat} {x : GA} {a : AR} (hS : St w (arF ga x a) w (arP ga x a)) (ok : a.Ok) (hs : 0 ≤ a.steps ∧ a.steps < 4611686018427387904) (hll : a.loose.length < 1000000) (k p : Nat) (ao : Option Addr) (n c : Nat) (bs : List UInt8) (hr : Rd w (.slice ao n c) 1 n (bytesV bs)) (hn : bs.length = n) (ho : Off (.slice ao n c) (arF ga x a)) (h1 : firstE (writeL a (k : Int) (p : Int) n) = 0) (h2 : a.fuse ≠ 0) (h3 : (a.dv (k : Int)).lo = false) (h5 : (a.dv (k : Int)).st = true) :
    Calls Tryz.prog 11 #[.pointer (some ⟨ga, 0, none⟩), .int .i64 (k : Int), .int .i64 (p : Int), .slice ao n c] w fun e w' => e = .returned (.int .i64 (a.writeE (k : Int) (p : Int) bs)) ∧ ∃ x', St w (arF ga x a) w' (arP ga x' (a.write (k : Int) (p : Int) bs)) := by
  have hb := write_ok (b := bs) (dev := (k : Int)) (pl := (p : Int)) ok.d0 (by rw [hn]; exact h1)
  have he : a.stepE = 0 := by unfold AR.stepE; rw [if_neg h2]
  rw [hb.2.2.2.2.1, hb.2.2.2.2.2, if_neg h2, he]
  have hin : a.inD (k : Int) = true := inS_inD hb.2.1
  have hb256 : bs.length = 256 := hb.2.2.1
  obtain ⟨a1, ha1⟩ : ∃ a1, a1 = a.step := ⟨_, rfl⟩
  have e1 : a1.inD (k : Int) = true := by rw [ha1, step_inD]; exact hin
  have e2 : a1.dv (k : Int) = a.dv (k : Int) := by rw [ha1, step_dv]
  have e3 : a1.loose = a.loose := by rw [ha1, step_loose]
  have hlt : k < a1.devs.length := by have := (inD_dev e1).2; omega
  have hdf := ok.fm (a.dv (k : Int)) (List.mem_of_getElem? (devs_get hin))
  rw [← ha1]
  rw [← e2] at h3 hdf
  have HIN := hid e1
  have HLL := hid (show a1.loose.length < 1000000 by rw [e3]; exact hll)
  have HPS : Hid (∀ (M : List Nat) (L1 : List HA), Probe (methV 49 (ptrV ga)) 0 (fun w' => St w M w' (L1 ++ arP ga x a)) (fun w' => St w M w' (L1 ++ arP ga x a1))) := hid (by
    intro M L1
    have := probe_step (w0 := w) (M := M) (L1 := L1) (ga := ga) (x := x) hs ok.fu
    rw [he, ← ha1] at this
    exact this)
  obtain ⟨FZ, hFS⟩ : ∃ FZ : List HA, FZ = a1.devs.map (fun d => .blk d.g 84 (secsV d.firm)) := ⟨_, rfl⟩
  have HFS := hid hFS
  obtain ⟨b, off, rfl, hrr⟩ := Rd.at hr (k := 0) (by omega)
  have hnn : 256 ≤ n := by omega
  have hM : b ∉ arF ga x a := ho _ _ _ rfl (by omega)
  have hba : (bytesV bs).length = 256 := by rw [length_bytesV, hb256]
  have HRR := hid hrr
  have HM := hid hM
  have HBA := hid hba
  have H1 := hid h1
  have HB256 := hid hb256
  have H3 := hid h3
  rw [← e2] at h5
  have H5 := hid h5
  obtain ⟨p9, hp9⟩ : ∃ p9 : Nat, (a1.dv (k : Int)).to = (p9 : Int) := ⟨((a1.dv (k : Int)).to).toNat, by have := hdf.2.2.1 h5; omega⟩
  have HP9 := hid hp9
  have hst0 := hS
  have OK := hid ok
  have hmf := rmf
  have harr : ∀ w, (Instr.arrayAt 84 (.slice (some ⟨b, off, none⟩) n c)).run Tryz.prog w = .ok (.pointer (some ⟨b, off, none⟩)) w := fun w => run_arrayAt _ _ _ _ _ _ _ Tryz.underlying84 hnn
  have HBU := hid (built_write (d := (k : Int)) (p := (p9 : Int)) hb256)
  replace HBU : Hid (Tryz.prog.built 86 [(0, .int .i64 (k : Int)), (1, .int .i64 (p9 : Int)), (2, .agg (bytesV bs).toArray)] = some (List.toArray (LW.cells ⟨k, p9, bs⟩))) := HBU
  clear hS ok hb he e2 e3 hin ha1 h1 h2 h3 hb256 hr hn ho hll hdf hrr hM hba hFS e1 h5
  clear hp9
  have Hne : Hid (FZ = FZ) := hid rfl
  go_enter Tryz.func11, Tryz.ntmps11
  have HC2 := hid (devC_get (rest := x.rest) HIN.out (show (a1.dv (k : Int)).cells[2]? = some (.int .u8 (b2i false 1 + b2i true 2)) by unfold DV.cells DV.nx; rw [H3.out, H5.out]; rfl) (by decide))
  have HSAME : Hid (putAt (devC a1 ++ x.rest) ((k : Int).toNat * 5 + 2) [.int .u8 (b2i false 1 + b2i true 2)] = devC a1 ++ x.rest) := hid (by
    have h := devC_put (a := a1) (dev := (k : Int)) (f := fun d => d) (i := 2) (v := .int .u8 (b2i false 1 + b2i true 2)) (rest := x.rest) HIN.out (by decide) (by unfold DV.cells DV.nx; rw [H3.out, H5.out]; rfl)
    rw [upd_same HIN.out rfl] at h
    exact h)
  obtain ⟨a2, ha2⟩ : ∃ a2, a2 = a1.upd (k : Int) fun d => { d with st := false } := ⟨_, rfl⟩
  have HPUT : Hid (putAt (devC a1 ++ x.rest) ((k : Int).toNat * 5 + 2) [.int .u8 (b2i false 1 + b2i false 2)] = devC a2 ++ x.rest) := hid (by
    rw [ha2]
    exact devC_put (a := a1) (dev := (k : Int)) (f := fun d => { d with st := false }) (i := 2) (rest := x.rest) HIN.out (by decide) (by rw [← H3.out]; rfl))
  have HL2 : Hid (a2.devs.length = a1.devs.length ∧ a2.devs.map (fun d => HA.blk d.g 84 (secsV d.firm)) = a1.devs.map (fun d => HA.blk d.g 84 (secsV d.firm)) ∧ a2.fuse = a1.fuse ∧ a2.out = a1.out ∧ a2.steps = a1.steps) := hid (by rw [ha2]; exact ⟨upd_len _ _ _, upd_map _ _ _ _ (fun _ => rfl), rfl, rfl, rfl⟩)
  have HTO : Hid ((devC a2 ++ x.rest)[(k : Int).toNat * 5 + 3]? = some (.int .i64 (p9 : Int))) := hid (devC_get (by rw [ha2, upd_inD]; exact HIN.out) (by rw [ha2, upd_dv HIN.out, ← HP9.out]; rfl) (by decide))
  have HLAY : Hid (a1.lay (k : Int) (p : Int) bs = ⟨a2.devs, a1.loose ++ [⟨k, p9, bs⟩], a2.fuse, a2.out, a2.steps⟩) := hid (by
    unfold AR.lay
    rw [if_neg (by rw [H3.out]; exact Bool.false_ne_true), if_pos H5.out, HP9.out, ha2]
    rfl)
  clear ha2
  go_wp2_with (first | go_big_skip | go_big_guard | (refine wl_box hst0 rfl rfl rfl ?_; intro g7 w1 hst1; clear hst0) | (go_at_call 47; refine (isSector_any ga (k : Int) (p : Int) _).mono ?_; rintro _ w2 ⟨g0, g1, g2, rfl, h4⟩; have hst2 := St.call hst1 h4; clear h4 hst1) | (go_at_call 48; refine (isHere_any ga (k : Int) _).mono ?_; rintro _ w3 ⟨k0, k1, rfl, h4⟩; have hst3 := St.call hst2 h4; clear h4 hst2) | (apply wl_bsX ([methV 45 (ptrV ga), methV 46 (ptrV ga), cloV 83 [ptrV g0, ptrV g1, ptrV g2], cloV 42 [ptrV g7], cloV 84 [ptrV k0, ptrV k1], methV 49 (ptrV ga)]) ([methV 45 (ptrV ga), methV 46 (ptrV ga), cloV 83 [ptrV g0, ptrV g1, ptrV g2], cloV 42 [ptrV g7], cloV 84 [ptrV k0, ptrV k1], methV 49 (ptrV ga)]) hst3; rfl; rfl; exact rfl; exact rfl; infer_instance; infer_instance; rfl; rfl; rfl; intro gs w4 hst4; clear hst3) | (go_at_call 44; have hC := checks_any (k : Int) (v := .slice (some ⟨gs, 0, none⟩) 6 6) (n := 6) (fs := [methV 45 (ptrV ga), methV 46 (ptrV ga), cloV 83 [ptrV g0, ptrV g1, ptrV g2], cloV 42 [ptrV g7], cloV 84 [ptrV k0, ptrV k1]]) (f9 := methV 49 (ptrV ga)) (es := writeL a (k : Int) (p : Int) n) (e9 := 0) (A := (fun w' => St w (arF ga x a) w' (([HA.blk gs 74 ([methV 45 (ptrV ga), methV 46 (ptrV ga), cloV 83 [ptrV g0, ptrV g1, ptrV g2], cloV 42 [ptrV g7], cloV 84 [ptrV k0, ptrV k1], methV 49 (ptrV ga)]), .blk k1 3 [.int .i64 (k : Int)], .blk k0 25 [.pointer (some ⟨ga, 0, none⟩)], .blk g2 3 [.int .i64 (p : Int)], .blk g1 3 [.int .i64 (k : Int)], .blk g0 25 [.pointer (some ⟨ga, 0, none⟩)], .blk g7 33 [.slice (some ⟨b, off, none⟩) n c]] : List HA) ++ arP ga x a))) (B := (fun w' => St w (arF ga x a) w' (([HA.blk gs 74 ([methV 45 (ptrV ga), methV 46 (ptrV ga), cloV 83 [ptrV g0, ptrV g1, ptrV g2], cloV 42 [ptrV g7], cloV 84 [ptrV k0, ptrV k1], methV 49 (ptrV ga)]), .blk k1 3 [.int .i64 (k : Int)], .blk k0 25 [.pointer (some ⟨ga, 0, none⟩)], .blk g2 3 [.int .i64 (p : Int)], .blk g1 3 [.int .i64 (k : Int)], .blk g0 25 [.pointer (some ⟨ga, 0, none⟩)], .blk g7 33 [.slice (some ⟨b, off, none⟩) n c]] : List HA) ++ arP ga x a1))) _ (fun _ h => Rd.blk h (.head _) (Nat.le_refl _) (by decide) rfl rfl) rfl rfl (by decide) (write_probes (fun _ h => ArrAt.of h (fun p hp => List.mem_append_right _ hp) OK.out.d0) keeps_st (fun _ h => St.cell h (off := 0) (.tail _ (.tail _ (.tail _ (.tail _ (.tail _ (.tail _ (.head _))))))) rfl) (fun _ h => St.cell h (off := 0) (.tail _ (.tail _ (.tail _ (.tail _ (.tail _ (.head _)))))) rfl) (fun _ h => St.cell h (off := 0) (.tail _ (.tail _ (.tail _ (.tail _ (.head _))))) rfl) (fun _ h => St.cell h (off := 0) (.tail _ (.tail _ (.tail _ (.head _)))) rfl) (fun _ h => St.cell h (off := 0) (.tail _ (.tail _ (.head _))) rfl) (fun _ h => St.cell h (off := 0) (.tail _ (.head _)) rfl)) (fun _ => HPS.out _ _) hst4; refine hC.mono ?_; rintro _ w5 hh; obtain ⟨rfl, h4⟩ := checks_fine H1.out hh; clear hC hh hst4; have hst5 : St w (arF ga x a) w5 (.blk g7 33 [.slice (some ⟨b, off, none⟩) n c] :: .blk ga 49 (arrC x a1) :: .blk x.gd 53 (devC a1 ++ x.rest) :: .row x.lv 86 258 a1.loose.length (looC a1) :: FZ) := (by rw [HFS.out]; exact St.sub h4 (.cons _ (.cons _ (.cons _ (.cons _ (.cons _ (.cons _ (List.Sublist.refl _)))))))); clear h4) | (refine wl_loadE rfl rfl rfl ?_; first | refine ⟨_, Loads.at [_] hst5 rfl, ?_⟩ | refine ⟨_, Loads.at [_, _] hst8 HTO.out, ?_⟩) | (refine wl_index (k := k) rfl rfl rfl rfl hlt ?_) | (go_at_call 51; refine (use1_any false true (St.one _ _ _ _ (hst5.all (.blk x.gd _ _) (.tail _ (.tail _ (.head _))))) HC2.out).mono ?_; rintro _ w6 ⟨rfl, h4⟩; have hst6 := St.call1 [_, _] hst5 h4; rw [HSAME.out] at hst6; clear h4 hst5) | (go_at_call 51; refine (use2_any false true (St.one _ _ _ _ (hst6.all (.blk x.gd _ _) (.tail _ (.tail _ (.head _))))) HC2.out).mono ?_; rintro _ w7 ⟨rfl, h4⟩; have hst8 := St.call1 [_, _] hst6 h4; rw [HPUT.out] at hst8; clear h4 hst6))
  have HW256 : Hid ((LW.cells ⟨k, p9, bs⟩).length = 258) := hid (LW.cells_len HB256.out)
  have HONES := hid (ones_LW ⟨k, p9, bs⟩)
  obtain ⟨WC, hWC⟩ : ∃ WC, WC = LW.cells ⟨k, p9, bs⟩ := ⟨_, rfl⟩
  have HWC := hid hWC
  rw [← hWC] at HW256 HONES HBU
  clear hWC
  have hX := hst8.drew
  clear hst8
  refine wp_region_held_drew (S := (fun w' => (loadVarH 33 ⟨g7, 0, none⟩).run Tryz.prog w' = .ok (.slice (some ⟨b, off, none⟩) n c) w' ∧ (loadVarH 84 ⟨b, off, none⟩).run Tryz.prog w' = .ok (.agg (bytesV bs).toArray) w')) (by kernel_rfl) (by exact ⟨ldS [] hX (rfl), ldOAM hX HBA.out HRR.out HM.out⟩) (fun hHeld => ?_)
  refine wpAnyH_take (i := 0) (oi := ⟨some 54, _, _, _, _, _⟩) (v := ?_) rfl (by kernel_rfl) (by kernel_rfl) (by kernel_rfl) (fun _ _ _ h => h) (Or.inl ⟨by rfl, ?_⟩) (by assumption) ?_
  rotate_left
  · intro w hSw; (try dsimp only at hSw); go_simp; try with_reducible rfl
  (try simp only [Act.put, List.setIfInBounds_toArray, List.set_cons_zero, List.set_cons_succ])
  refine wpAnyH_take (i := 1) (oi := ⟨some 55, _, _, _, _, _⟩) (v := ?_) rfl (by kernel_rfl) (by kernel_rfl) (by kernel_rfl) (fun _ _ _ h => h) (Or.inl ⟨by rfl, ?_⟩) (by assumption) ?_
  rotate_left
  · intro w hSw; (try dsimp only at hSw); go_simp; try with_reducible rfl
  (try simp only [Act.put, List.setIfInBounds_toArray, List.set_cons_zero, List.set_cons_succ])
  refine wpAnyH_take (i := 5) (oi := ⟨some 59, _, _, _, _, _⟩) (v := ?_) rfl (by kernel_rfl) (by kernel_rfl) (by kernel_rfl) (fun _ _ _ h => h) (Or.inl ⟨by rfl, ?_⟩) (by assumption) ?_
  rotate_left
  · intro w hSw; (try dsimp only at hSw); go_simp; try with_reducible rfl
  (try simp only [Act.put, List.setIfInBounds_toArray, List.set_cons_zero, List.set_cons_succ])
  refine wpAnyH_take (i := 6) (oi := ⟨some 60, _, _, _, _, _⟩) (v := ?_) rfl (by kernel_rfl) (by kernel_rfl) (by kernel_rfl) (fun _ _ _ h => h) (Or.inl ⟨by rfl, ?_⟩) (by assumption) ?_
  rotate_left
  · intro w hSw; (try dsimp only at hSw); go_simp; try with_reducible rfl
  (try simp only [Act.put, List.setIfInBounds_toArray, List.set_cons_zero, List.set_cons_succ])
  refine wpAnyH_take (i := 7) (oi := ⟨some 61, _, _, _, _, _⟩) (v := ?_) rfl (by kernel_rfl) (by kernel_rfl) (by kernel_rfl) (fun _ _ _ h => h) (Or.inl ⟨by rfl, ?_⟩) (by assumption) ?_
  rotate_left
  · intro w hSw; (try dsimp only at hSw); go_simp; try with_reducible rfl
  (try simp only [Act.put, List.setIfInBounds_toArray, List.set_cons_zero, List.set_cons_succ])
  refine wpAnyH_take (i := 2) (oi := ⟨some 56, _, _, _, _, _⟩) (v := ?_) rfl (by kernel_rfl) (by kernel_rfl) (by kernel_rfl) (fun _ _ _ h => h) (Or.inl ⟨by rfl, ?_⟩) (by assumption) ?_
  rotate_left
  · intro w hSw; (try dsimp only at hSw); go_simp; try with_reducible rfl
  (try simp only [Act.put, List.setIfInBounds_toArray, List.set_cons_zero, List.set_cons_succ])
  refine wpAnyH_take (i := 8) (oi := ⟨some 62, _, _, _, _, _⟩) (v := ?_) rfl (by kernel_rfl) (by kernel_rfl) (by kernel_rfl) (fun _ _ _ h => h) (Or.inl ⟨by rfl, ?_⟩) (by assumption) ?_
  rotate_left
  · intro w hSw; (try dsimp only at hSw); go_simp; try with_reducible rfl
  (try simp only [Act.put, List.setIfInBounds_toArray, List.set_cons_zero, List.set_cons_succ])
  refine wpAnyH_take (i := 3) (oi := ⟨some 57, _, _, _, _, _⟩) (v := ?_) rfl (by kernel_rfl) (by kernel_rfl) (by kernel_rfl) (fun _ _ _ h => h) (Or.inl ⟨by rfl, ?_⟩) (by assumption) ?_
  rotate_left
  · intro w hSw; (try dsimp only at hSw); go_simp; try with_reducible rfl
  (try simp only [Act.put, List.setIfInBounds_toArray, List.set_cons_zero, List.set_cons_succ])
  refine wpAnyH_take (i := 9) (oi := ⟨some 63, _, _, _, _, _⟩) (v := ?_) rfl (by kernel_rfl) (by kernel_rfl) (by kernel_rfl) (fun _ _ _ h => h) (Or.inl ⟨by rfl, ?_⟩) (by assumption) ?_
  rotate_left
  · intro w hSw; (try dsimp only at hSw); go_simp; try with_reducible rfl
  (try simp only [Act.put, List.setIfInBounds_toArray, List.set_cons_zero, List.set_cons_succ])
  refine wpAnyH_ready (rs := [4, 10]) (by kernel_rfl) (by simp) ?_
  refine (AllReadyH.cons (o := ⟨some 58, _, _, _, _, _⟩) rfl (fun K hK => ?_) (AllReadyH.cons (o := ⟨some 64, _, _, _, _, _⟩) rfl (fun K hK => ?_) AllReadyH.nil))
  · rw [if_pos (by rfl)]
    refine ow_of_wl (ops := #[]) (by rfl) ?_
    refine wl_loadE rfl rfl rfl ?_
    refine ⟨_, Loads.at [_] hX rfl, ?_⟩
    refine q0_nil ?_
    refine hK.out _ _ ?_ (fun hHeld => ?_)
    · exact ⟨ldS [] hX (rfl), ldOAM hX HBA.out HRR.out HM.out⟩
    clear hK K
    (try simp only [Act.put, List.setIfInBounds_toArray, List.set_cons_zero, List.set_cons_succ])
    refine wpAnyH_ready (rs := [10]) (by kernel_rfl) (by simp) ?_
    refine (AllReadyH.cons (o := ⟨some 64, _, _, _, _, _⟩) rfl (fun K hK => ?_) AllReadyH.nil)
    rw [if_pos (by rfl)]
    refine ow_of_wl (ops := #[]) (by rfl) ?_
    refine wl_buildX (cs := WC) [(0, .int .i64 (k : Int)), (1, .int .i64 (p9 : Int)), (2, .agg (bytesV bs).toArray)] rfl rfl (by exact rfl) HBU.out ?_
    refine q0_nil ?_
    refine hK.out _ _ ?_ (fun hHeld => ?_)
    · exact ⟨ldS [] hX (rfl), ldOAM hX HBA.out HRR.out HM.out⟩
    clear hK K
    (try simp only [Act.put, List.setIfInBounds_toArray, List.set_cons_zero, List.set_cons_succ])
    refine wpAnyH_ready (rs := [11]) (by kernel_rfl) (by simp) ?_
    refine (AllReadyH.cons (o := ⟨some 65, _, _, _, _, _⟩) rfl (fun K hK => ?_) AllReadyH.nil)
    rw [if_pos (by rfl)]
    refine ow_of_wl (ops := #[]) (by rfl) ?_
    apply wl_bsX [.agg WC.toArray] WC hX
    rfl
    rfl
    exact rfl
    exact (List.append_nil _)
    infer_instance
    infer_instance
    (show ((WC.toArray.size == 258) && true) = true; rw [List.size_toArray, HW256.out]; rfl)
    rfl
    rfl
    intro gb w11 hZ1
    refine q0_nil ?_
    refine hK.out _ _ ?_ (fun hHeld => ?_)
    · exact ⟨ldS [_] hZ1 (rfl), ldOAM hZ1 HBA.out HRR.out HM.out⟩
    clear hK K
    (try simp only [Act.put, List.setIfInBounds_toArray, List.set_cons_zero, List.set_cons_succ])
    refine wpAnyH_ready (rs := [12]) (by kernel_rfl) (by simp) ?_
    refine (AllReadyH.cons (o := ⟨some 66, _, _, _, _, _⟩) rfl (fun K hK => ?_) AllReadyH.nil)
    rw [if_pos (by rfl)]
    refine ow_of_wl (ops := #[]) (by rfl) ?_
    apply wl_appX (m := 1) (ys := WC) [_, _, _, _] hZ1
    rfl
    rfl
    exact rfl
    exact rfl
    infer_instance
    infer_instance
    infer_instance
    exact Rd.blk (n := 1) hZ1 (.head _) (Nat.le_refl _) (by decide) (by rw [HW256.out]) (by rw [List.drop_zero, List.take_length])
    exact HONES.out
    (have := HLL.out; refine ⟨by decide, by unfold maxLen; omega, by omega⟩)
    intro v9 w12 hZ2 _
    obtain ⟨ao9, c9, rfl, _, _, _⟩ := row_form hZ2 (.tail _ (.tail _ (.tail _ (.tail _ (.head _)))))
    refine q0_nil ?_
    refine hK.out _ _ ?_ (fun hHeld => ?_)
    · exact ⟨ldS [_] hZ2 (rfl), ldOAM hZ2 HBA.out HRR.out HM.out⟩
    clear hK K
    (try simp only [Act.put, List.setIfInBounds_toArray, List.set_cons_zero, List.set_cons_succ])
    refine wpAnyH_take (i := 13) (oi := ⟨some 67, _, _, _, _, _⟩) (v := ?_) rfl (by kernel_rfl) (by kernel_rfl) (by kernel_rfl) (fun _ _ _ h => h) (Or.inl ⟨by rfl, ?_⟩) (by assumption) ?_
    rotate_left
    · intro w hSw; (try dsimp only at hSw); go_simp; try with_reducible rfl
    (try simp only [Act.put, List.setIfInBounds_toArray, List.set_cons_zero, List.set_cons_succ])
    refine wpAnyH_take (i := 14) (oi := ⟨some 68, _, _, _, _, _⟩) (v := ?_) rfl (by kernel_rfl) (by kernel_rfl) (by kernel_rfl) (fun _ _ _ h => h) (Or.inl ⟨by rfl, ?_⟩) (by assumption) ?_
    rotate_left
    · intro w hSw; (try dsimp only at hSw); go_simp; try with_reducible rfl
    (try simp only [Act.put, List.setIfInBounds_toArray, List.set_cons_zero, List.set_cons_succ])
    refine wpAnyH_ready (rs := [15]) (by kernel_rfl) (by simp) ?_
    refine (AllReadyH.cons (o := ⟨none, _, _, _, _, _⟩) rfl (fun K hK => ?_) AllReadyH.nil)
    rw [if_pos (by rfl)]
    refine ow_of_wl (ops := #[]) (by rfl) ?_
    refine wl_store [_, _] hZ2 rfl rfl rfl (v := .slice _ _ _) rfl rfl rfl (by show (1 : Nat) + 1 ≤ 5; decide) ?_
    intro w13 hZ3
    refine q0_nil ?_
    refine hK.out _ _ ?_ (fun hHeld => ?_)
    · exact ⟨ldS [_] hZ3 (rfl), ldOAM hZ3 HBA.out HRR.out HM.out⟩
    clear hK K
    (try simp only [Act.put, List.setIfInBounds_toArray, List.set_cons_zero, List.set_cons_succ])
    refine wpAnyH_done (by kernel_rfl) ?_ _
    clear hHeld
    go_wp2_with (first | go_big_skip | go_big_guard | fail)
    go_ret
    refine ⟨rfl, ⟨x.gd, x.cd, x.rest, .slice ao9 (a1.loose.length + 1) c9⟩, ?_⟩
    rw [HLAY.out, arP_laid HFS.out HL2.out.2.1 HL2.out.1, ← HWC.out, HL2.out.2.2.1, HL2.out.2.2.2.1, HL2.out.2.2.2.2]
    exact St.sub hZ3 (.cons _ (.cons _ (List.Sublist.refl _)))
  · rw [if_pos (by rfl)]
    refine ow_of_wl (ops := #[]) (by rfl) ?_
    refine wl_buildX (cs := WC) [(0, .int .i64 (k : Int)), (1, .int .i64 (p9 : Int)), (2, .agg (bytesV bs).toArray)] rfl rfl (by exact rfl) HBU.out ?_
    refine q0_nil ?_
    refine hK.out _ _ ?_ (fun hHeld => ?_)
    · exact ⟨ldS [] hX (rfl), ldOAM hX HBA.out HRR.out HM.out⟩
    clear hK K
    (try simp only [Act.put, List.setIfInBounds_toArray, List.set_cons_zero, List.set_cons_succ])
    refine wpAnyH_ready (rs := [4, 11]) (by kernel_rfl) (by simp) ?_
    refine (AllReadyH.cons (o := ⟨some 58, _, _, _, _, _⟩) rfl (fun K hK => ?_) (AllReadyH.cons (o := ⟨some 65, _, _, _, _, _⟩) rfl (fun K hK => ?_) AllReadyH.nil))
    · rw [if_pos (by rfl)]
      refine ow_of_wl (ops := #[]) (by rfl) ?_
      refine wl_loadE rfl rfl rfl ?_
      refine ⟨_, Loads.at [_] hX rfl, ?_⟩
      refine q0_nil ?_
      refine hK.out _ _ ?_ (fun hHeld => ?_)
      · exact ⟨ldS [] hX (rfl), ldOAM hX HBA.out HRR.out HM.out⟩
      clear hK K
      (try simp only [Act.put, List.setIfInBounds_toArray, List.set_cons_zero, List.set_cons_succ])
      refine wpAnyH_ready (rs := [11]) (by kernel_rfl) (by simp) ?_
      refine (AllReadyH.cons (o := ⟨some 65, _, _, _, _, _⟩) rfl (fun K hK => ?_) AllReadyH.nil)
      rw [if_pos (by rfl)]
      refine ow_of_wl (ops := #[]) (by rfl) ?_
      apply wl_bsX [.agg WC.toArray] WC hX
      rfl
      rfl
      exact rfl
      exact (List.append_nil _)
      infer_instance
      infer_instance
      (show ((WC.toArray.size == 258) && true) = true; rw [List.size_toArray, HW256.out]; rfl)
      rfl
      rfl
      intro gb w11 hZ1
      refine q0_nil ?_
      refine hK.out _ _ ?_ (fun hHeld => ?_)
      · exact ⟨ldS [_] hZ1 (rfl), ldOAM hZ1 HBA.out HRR.out HM.out⟩
      clear hK K
      (try simp only [Act.put, List.setIfInBounds_toArray, List.set_cons_zero, List.set_cons_succ])
      refine wpAnyH_ready (rs := [12]) (by kernel_rfl) (by simp) ?_
      refine (AllReadyH.cons (o := ⟨some 66, _, _, _, _, _⟩) rfl (fun K hK => ?_) AllReadyH.nil)
      rw [if_pos (by rfl)]
      refine ow_of_wl (ops := #[]) (by rfl) ?_
      apply wl_appX (m := 1) (ys := WC) [_, _, _, _] hZ1
      rfl
      rfl
      exact rfl
      exact rfl
      infer_instance
      infer_instance
      infer_instance
      exact Rd.blk (n := 1) hZ1 (.head _) (Nat.le_refl _) (by decide) (by rw [HW256.out]) (by rw [List.drop_zero, List.take_length])
      exact HONES.out
      (have := HLL.out; refine ⟨by decide, by unfold maxLen; omega, by omega⟩)
      intro v9 w12 hZ2 _
      obtain ⟨ao9, c9, rfl, _, _, _⟩ := row_form hZ2 (.tail _ (.tail _ (.tail _ (.tail _ (.head _)))))
      refine q0_nil ?_
      refine hK.out _ _ ?_ (fun hHeld => ?_)
      · exact ⟨ldS [_] hZ2 (rfl), ldOAM hZ2 HBA.out HRR.out HM.out⟩
      clear hK K
      (try simp only [Act.put, List.setIfInBounds_toArray, List.set_cons_zero, List.set_cons_succ])
      refine wpAnyH_take (i := 13) (oi := ⟨some 67, _, _, _, _, _⟩) (v := ?_) rfl (by kernel_rfl) (by kernel_rfl) (by kernel_rfl) (fun _ _ _ h => h) (Or.inl ⟨by rfl, ?_⟩) (by assumption) ?_
      rotate_left
      · intro w hSw; (try dsimp only at hSw); go_simp; try with_reducible rfl
      (try simp only [Act.put, List.setIfInBounds_toArray, List.set_cons_zero, List.set_cons_succ])
      refine wpAnyH_take (i := 14) (oi := ⟨some 68, _, _, _, _, _⟩) (v := ?_) rfl (by kernel_rfl) (by kernel_rfl) (by kernel_rfl) (fun _ _ _ h => h) (Or.inl ⟨by rfl, ?_⟩) (by assumption) ?_
      rotate_left
      · intro w hSw; (try dsimp only at hSw); go_simp; try with_reducible rfl
      (try simp only [Act.put, List.setIfInBounds_toArray, List.set_cons_zero, List.set_cons_succ])
      refine wpAnyH_ready (rs := [15]) (by kernel_rfl) (by simp) ?_
      refine (AllReadyH.cons (o := ⟨none, _, _, _, _, _⟩) rfl (fun K hK => ?_) AllReadyH.nil)
      rw [if_pos (by rfl)]
      refine ow_of_wl (ops := #[]) (by rfl) ?_
      refine wl_store [_, _] hZ2 rfl rfl rfl (v := .slice _ _ _) rfl rfl rfl (by show (1 : Nat) + 1 ≤ 5; decide) ?_
      intro w13 hZ3
      refine q0_nil ?_
      refine hK.out _ _ ?_ (fun hHeld => ?_)
      · exact ⟨ldS [_] hZ3 (rfl), ldOAM hZ3 HBA.out HRR.out HM.out⟩
      clear hK K
      (try simp only [Act.put, List.setIfInBounds_toArray, List.set_cons_zero, List.set_cons_succ])
      refine wpAnyH_done (by kernel_rfl) ?_ _
      clear hHeld
      go_wp2_with (first | go_big_skip | go_big_guard | fail)
      go_ret
      refine ⟨rfl, ⟨x.gd, x.cd, x.rest, .slice ao9 (a1.loose.length + 1) c9⟩, ?_⟩
      rw [HLAY.out, arP_laid HFS.out HL2.out.2.1 HL2.out.1, ← HWC.out, HL2.out.2.2.1, HL2.out.2.2.2.1, HL2.out.2.2.2.2]
      exact St.sub hZ3 (.cons _ (.cons _ (List.Sublist.refl _)))
    · rw [if_pos (by rfl)]
      refine ow_of_wl (ops := #[]) (by rfl) ?_
      apply wl_bsX [.agg WC.toArray] WC hX
      rfl
      rfl
      exact rfl
      exact (List.append_nil _)
      infer_instance
      infer_instance
      (show ((WC.toArray.size == 258) && true) = true; rw [List.size_toArray, HW256.out]; rfl)
      rfl
      rfl
      intro gb w11 hZ1
      refine q0_nil ?_
      refine hK.out _ _ ?_ (fun hHeld => ?_)
      · exact ⟨ldS [_] hZ1 (rfl), ldOAM hZ1 HBA.out HRR.out HM.out⟩
      clear hK K
      (try simp only [Act.put, List.setIfInBounds_toArray, List.set_cons_zero, List.set_cons_succ])
      refine wpAnyH_ready (rs := [4]) (by kernel_rfl) (by simp) ?_
      refine (AllReadyH.cons (o := ⟨some 58, _, _, _, _, _⟩) rfl (fun K hK => ?_) AllReadyH.nil)
      rw [if_pos (by rfl)]
      refine ow_of_wl (ops := #[]) (by rfl) ?_
      refine wl_loadE rfl rfl rfl ?_
      refine ⟨_, Loads.at [_, _] hZ1 rfl, ?_⟩
      refine q0_nil ?_
      refine hK.out _ _ ?_ (fun hHeld => ?_)
      · exact ⟨ldS [_] hZ1 (rfl), ldOAM hZ1 HBA.out HRR.out HM.out⟩
      clear hK K
      (try simp only [Act.put, List.setIfInBounds_toArray, List.set_cons_zero, List.set_cons_succ])
      refine wpAnyH_ready (rs := [12]) (by kernel_rfl) (by simp) ?_
      refine (AllReadyH.cons (o := ⟨some 66, _, _, _, _, _⟩) rfl (fun K hK => ?_) AllReadyH.nil)
      rw [if_pos (by rfl)]
      refine ow_of_wl (ops := #[]) (by rfl) ?_
      apply wl_appX (m := 1) (ys := WC) [_, _, _, _] hZ1
      rfl
      rfl
      exact rfl
      exact rfl
      infer_instance
      infer_instance
      infer_instance
      exact Rd.blk (n := 1) hZ1 (.head _) (Nat.le_refl _) (by decide) (by rw [HW256.out]) (by rw [List.drop_zero, List.take_length])
      exact HONES.out
      (have := HLL.out; refine ⟨by decide, by unfold maxLen; omega, by omega⟩)
      intro v9 w12 hZ2 _
      obtain ⟨ao9, c9, rfl, _, _, _⟩ := row_form hZ2 (.tail _ (.tail _ (.tail _ (.tail _ (.head _)))))
      refine q0_nil ?_
      refine hK.out _ _ ?_ (fun hHeld => ?_)
      · exact ⟨ldS [_] hZ2 (rfl), ldOAM hZ2 HBA.out HRR.out HM.out⟩
      clear hK K
      (try simp only [Act.put, List.setIfInBounds_toArray, List.set_cons_zero, List.set_cons_succ])
      refine wpAnyH_take (i := 13) (oi := ⟨some 67, _, _, _, _, _⟩) (v := ?_) rfl (by kernel_rfl) (by kernel_rfl) (by kernel_rfl) (fun _ _ _ h => h) (Or.inl ⟨by rfl, ?_⟩) (by assumption) ?_
      rotate_left
      · intro w hSw; (try dsimp only at hSw); go_simp; try with_reducible rfl
      (try simp only [Act.put, List.setIfInBounds_toArray, List.set_cons_zero, List.set_cons_succ])
      refine wpAnyH_take (i := 14) (oi := ⟨some 68, _, _, _, _, _⟩) (v := ?_) rfl (by kernel_rfl) (by kernel_rfl) (by kernel_rfl) (fun _ _ _ h => h) (Or.inl ⟨by rfl, ?_⟩) (by assumption) ?_
      rotate_left
      · intro w hSw; (try dsimp only at hSw); go_simp; try with_reducible rfl
      (try simp only [Act.put, List.setIfInBounds_toArray, List.set_cons_zero, List.set_cons_succ])
      refine wpAnyH_ready (rs := [15]) (by kernel_rfl) (by simp) ?_
      refine (AllReadyH.cons (o := ⟨none, _, _, _, _, _⟩) rfl (fun K hK => ?_) AllReadyH.nil)
      rw [if_pos (by rfl)]
      refine ow_of_wl (ops := #[]) (by rfl) ?_
      refine wl_store [_, _] hZ2 rfl rfl rfl (v := .slice _ _ _) rfl rfl rfl (by show (1 : Nat) + 1 ≤ 5; decide) ?_
      intro w13 hZ3
      refine q0_nil ?_
      refine hK.out _ _ ?_ (fun hHeld => ?_)
      · exact ⟨ldS [_] hZ3 (rfl), ldOAM hZ3 HBA.out HRR.out HM.out⟩
      clear hK K
      (try simp only [Act.put, List.setIfInBounds_toArray, List.set_cons_zero, List.set_cons_succ])
      refine wpAnyH_done (by kernel_rfl) ?_ _
      clear hHeld
      go_wp2_with (first | go_big_skip | go_big_guard | fail)
      go_ret
      refine ⟨rfl, ⟨x.gd, x.cd, x.rest, .slice ao9 (a1.loose.length + 1) c9⟩, ?_⟩
      rw [HLAY.out, arP_laid HFS.out HL2.out.2.1 HL2.out.1, ← HWC.out, HL2.out.2.2.1, HL2.out.2.2.2.1, HL2.out.2.2.2.2]
      exact St.sub hZ3 (.cons _ (.cons _ (List.Sublist.refl _)))
theorem write_at {w : World} {ga : Nat} {x : GA} {a : AR} (hS : St w (arF ga x a) w (arP ga x a)) (ok : a.Ok) (hs : 0 ≤ a.steps ∧ a.steps < 4611686018427387904) (hll : a.loose.length < 1000000) (k p : Nat) (ao : Option Addr) (n c : Nat) (bs : List UInt8) (hr : Rd w (.slice ao n c) 1 n (bytesV bs)) (hn : bs.length = n) (ho : Off (.slice ao n c) (arF ga x a)) (h1 : firstE (writeL a (k : Int) (p : Int) n) = 0) (h2 : a.fuse ≠ 0) (h3 : (a.dv (k : Int)).lo = false) (h5 : (a.dv (k : Int)).st = false) :
    Calls Tryz.prog 11 #[.pointer (some ⟨ga, 0, none⟩), .int .i64 (k : Int), .int .i64 (p : Int), .slice ao n c] w fun e w' => e = .returned (.int .i64 (a.writeE (k : Int) (p : Int) bs)) ∧ ∃ x', St w (arF ga x a) w' (arP ga x' (a.write (k : Int) (p : Int) bs)) := by
  have hb := write_ok (b := bs) (dev := (k : Int)) (pl := (p : Int)) ok.d0 (by rw [hn]; exact h1)
  have he : a.stepE = 0 := by unfold AR.stepE; rw [if_neg h2]
  rw [hb.2.2.2.2.1, hb.2.2.2.2.2, if_neg h2, he]
  have hin : a.inD (k : Int) = true := inS_inD hb.2.1
  have hb256 : bs.length = 256 := hb.2.2.1
  obtain ⟨a1, ha1⟩ : ∃ a1, a1 = a.step := ⟨_, rfl⟩
  have e1 : a1.inD (k : Int) = true := by rw [ha1, step_inD]; exact hin
  have e2 : a1.dv (k : Int) = a.dv (k : Int) := by rw [ha1, step_dv]
  have e3 : a1.loose = a.loose := by rw [ha1, step_loose]
  have hlt : k < a1.devs.length := by have := (inD_dev e1).2; omega
  have hdf := ok.fm (a.dv (k : Int)) (List.mem_of_getElem? (devs_get hin))
  rw [← ha1]
  rw [← e2] at h3 hdf
  have HIN := hid e1
  have HLL := hid (show a1.loose.length < 1000000 by rw [e3]; exact hll)
  have HPS : Hid (∀ (M : List Nat) (L1 : List HA), Probe (methV 49 (ptrV ga)) 0 (fun w' => St w M w' (L1 ++ arP ga x a)) (fun w' => St w M w' (L1 ++ arP ga x a1))) := hid (by
    intro M L1
    have := probe_step (w0 := w) (M := M) (L1 := L1) (ga := ga) (x := x) hs ok.fu
    rw [he, ← ha1] at this
    exact this)
  obtain ⟨FZ, hFS⟩ : ∃ FZ : List HA, FZ = a1.devs.map (fun d => .blk d.g 84 (secsV d.firm)) := ⟨_, rfl⟩
  have HFS := hid hFS
  obtain ⟨b, off, rfl, hrr⟩ := Rd.at hr (k := 0) (by omega)
  have hnn : 256 ≤ n := by omega
  have hM : b ∉ arF ga x a := ho _ _ _ rfl (by omega)
  have hba : (bytesV bs).length = 256 := by rw [length_bytesV, hb256]
  have HRR := hid hrr
  have HM := hid hM
  have HBA := hid hba
  have H1 := hid h1
  have HB256 := hid hb256
  have H3 := hid h3
  rw [← e2] at h5
  have H5 := hid h5
  have hst0 := hS
  have OK := hid ok
  have hmf := rmf
  have harr : ∀ w, (Instr.arrayAt 84 (.slice (some ⟨b, off, none⟩) n c)).run Tryz.prog w = .ok (.pointer (some ⟨b, off, none⟩)) w := fun w => run_arrayAt _ _ _ _ _ _ _ Tryz.underlying84 hnn
  have HBU := hid (built_write (d := (k : Int)) (p := (p : Int)) hb256)
  replace HBU : Hid (Tryz.prog.built 86 [(0, .int .i64 (k : Int)), (1, .int .i64 (p : Int)), (2, .agg (bytesV bs).toArray)] = some (List.toArray (LW.cells ⟨k, p, bs⟩))) := HBU
  clear hS ok hb he e2 e3 hin ha1 h1 h2 h3 hb256 hr hn ho hll hdf hrr hM hba hFS e1 h5
  have Hne : Hid (FZ = FZ) := hid rfl
  go_enter Tryz.func11, Tryz.ntmps11
  have HC2 := hid (devC_get (rest := x.rest) HIN.out (show (a1.dv (k : Int)).cells[2]? = some (.int .u8 (b2i false 1 + b2i false 2)) by unfold DV.cells DV.nx; rw [H3.out, H5.out]; rfl) (by decide))
  have HSAME : Hid (putAt (devC a1 ++ x.rest) ((k : Int).toNat * 5 + 2) [.int .u8 (b2i false 1 + b2i false 2)] = devC a1 ++ x.rest) := hid (by
    have h := devC_put (a := a1) (dev := (k : Int)) (f := fun d => d) (i := 2) (v := .int .u8 (b2i false 1 + b2i false 2)) (rest := x.rest) HIN.out (by decide) (by unfold DV.cells DV.nx; rw [H3.out, H5.out]; rfl)
    rw [upd_same HIN.out rfl] at h
    exact h)
  obtain ⟨a2, ha2⟩ : ∃ a2, a2 = a1 := ⟨_, rfl⟩
  have HPUT : Hid (putAt (devC a1 ++ x.rest) ((k : Int).toNat * 5 + 2) [.int .u8 (b2i false 1 + b2i false 2)] = devC a2 ++ x.rest) := hid (by rw [ha2]; exact HSAME.out)
  have HL2 : Hid (a2.devs.length = a1.devs.length ∧ a2.devs.map (fun d => HA.blk d.g 84 (secsV d.firm)) = a1.devs.map (fun d => HA.blk d.g 84 (secsV d.firm)) ∧ a2.fuse = a1.fuse ∧ a2.out = a1.out ∧ a2.steps = a1.steps) := hid (by rw [ha2]; exact ⟨rfl, rfl, rfl, rfl, rfl⟩)
  have HLAY : Hid (a1.lay (k : Int) (p : Int) bs = ⟨a2.devs, a1.loose ++ [⟨k, p, bs⟩], a2.fuse, a2.out, a2.steps⟩) := hid (by
    unfold AR.lay
    rw [if_neg (by rw [H3.out]; exact Bool.false_ne_true), if_neg (by rw [H5.out]; exact Bool.false_ne_true), ha2]
    rfl)
  clear ha2
  go_wp2_with (first | go_big_skip | go_big_guard | (refine wl_box hst0 rfl rfl rfl ?_; intro g7 w1 hst1; clear hst0) | (go_at_call 47; refine (isSector_any ga (k : Int) (p : Int) _).mono ?_; rintro _ w2 ⟨g0, g1, g2, rfl, h4⟩; have hst2 := St.call hst1 h4; clear h4 hst1) | (go_at_call 48; refine (isHere_any ga (k : Int) _).mono ?_; rintro _ w3 ⟨k0, k1, rfl, h4⟩; have hst3 := St.call hst2 h4; clear h4 hst2) | (apply wl_bsX ([methV 45 (ptrV ga), methV 46 (ptrV ga), cloV 83 [ptrV g0, ptrV g1, ptrV g2], cloV 42 [ptrV g7], cloV 84 [ptrV k0, ptrV k1], methV 49 (ptrV ga)]) ([methV 45 (ptrV ga), methV 46 (ptrV ga), cloV 83 [ptrV g0, ptrV g1, ptrV g2], cloV 42 [ptrV g7], cloV 84 [ptrV k0, ptrV k1], methV 49 (ptrV ga)]) hst3; rfl; rfl; exact rfl; exact rfl; infer_instance; infer_instance; rfl; rfl; rfl; intro gs w4 hst4; clear hst3) | (go_at_call 44; have hC := checks_any (k : Int) (v := .slice (some ⟨gs, 0, none⟩) 6 6) (n := 6) (fs := [methV 45 (ptrV ga), methV 46 (ptrV ga), cloV 83 [ptrV g0, ptrV g1, ptrV g2], cloV 42 [ptrV g7], cloV 84 [ptrV k0, ptrV k1]]) (f9 := methV 49 (ptrV ga)) (es := writeL a (k : Int) (p : Int) n) (e9 := 0) (A := (fun w' => St w (arF ga x a) w' (([HA.blk gs 74 ([methV 45 (ptrV ga), methV 46 (ptrV ga), cloV 83 [ptrV g0, ptrV g1, ptrV g2], cloV 42 [ptrV g7], cloV 84 [ptrV k0, ptrV k1], methV 49 (ptrV ga)]), .blk k1 3 [.int .i64 (k : Int)], .blk k0 25 [.pointer (some ⟨ga, 0, none⟩)], .blk g2 3 [.int .i64 (p : Int)], .blk g1 3 [.int .i64 (k : Int)], .blk g0 25 [.pointer (some ⟨ga, 0, none⟩)], .blk g7 33 [.slice (some ⟨b, off, none⟩) n c]] : List HA) ++ arP ga x a))) (B := (fun w' => St w (arF ga x a) w' (([HA.blk gs 74 ([methV 45 (ptrV ga), methV 46 (ptrV ga), cloV 83 [ptrV g0, ptrV g1, ptrV g2], cloV 42 [ptrV g7], cloV 84 [ptrV k0, ptrV k1], methV 49 (ptrV ga)]), .blk k1 3 [.int .i64 (k : Int)], .blk k0 25 [.pointer (some ⟨ga, 0, none⟩)], .blk g2 3 [.int .i64 (p : Int)], .blk g1 3 [.int .i64 (k : Int)], .blk g0 25 [.pointer (some ⟨ga, 0, none⟩)], .blk g7 33 [.slice (some ⟨b, off, none⟩) n c]] : List HA) ++ arP ga x a1))) _ (fun _ h => Rd.blk h (.head _) (Nat.le_refl _) (by decide) rfl rfl) rfl rfl (by decide) (write_probes (fun _ h => ArrAt.of h (fun p hp => List.mem_append_right _ hp) OK.out.d0) keeps_st (fun _ h => St.cell h (off := 0) (.tail _ (.tail _ (.tail _ (.tail _ (.tail _ (.tail _ (.head _))))))) rfl) (fun _ h => St.cell h (off := 0) (.tail _ (.tail _ (.tail _ (.tail _ (.tail _ (.head _)))))) rfl) (fun _ h => St.cell h (off := 0) (.tail _ (.tail _ (.tail _ (.tail _ (.head _))))) rfl) (fun _ h => St.cell h (off := 0) (.tail _ (.tail _ (.tail _ (.head _)))) rfl) (fun _ h => St.cell h (off := 0) (.tail _ (.tail _ (.head _))) rfl) (fun _ h => St.cell h (off := 0) (.tail _ (.head _)) rfl)) (fun _ => HPS.out _ _) hst4; refine hC.mono ?_; rintro _ w5 hh; obtain ⟨rfl, h4⟩ := checks_fine H1.out hh; clear hC hh hst4; have hst5 : St w (arF ga x a) w5 (.blk g7 33 [.slice (some ⟨b, off, none⟩) n c] :: .blk ga 49 (arrC x a1) :: .blk x.gd 53 (devC a1 ++ x.rest) :: .row x.lv 86 258 a1.loose.length (looC a1) :: FZ) := (by rw [HFS.out]; exact St.sub h4 (.cons _ (.cons _ (.cons _ (.cons _ (.cons _ (.cons _ (List.Sublist.refl _)))))))); clear h4) | (refine wl_loadE rfl rfl rfl ?_; first | refine ⟨_, Loads.at [_] hst5 rfl, ?_⟩) | (refine wl_index (k := k) rfl rfl rfl rfl hlt ?_) | (go_at_call 51; refine (use1_any false false (St.one _ _ _ _ (hst5.all (.blk x.gd _ _) (.tail _ (.tail _ (.head _))))) HC2.out).mono ?_; rintro _ w6 ⟨rfl, h4⟩; have hst6 := St.call1 [_, _] hst5 h4; rw [HSAME.out] at hst6; clear h4 hst5) | (go_at_call 51; refine (use2_any false false (St.one _ _ _ _ (hst6.all (.blk x.gd _ _) (.tail _ (.tail _ (.head _))))) HC2.out).mono ?_; rintro _ w7 ⟨rfl, h4⟩; have hst8 := St.call1 [_, _] hst6 h4; rw [HPUT.out] at hst8; clear h4 hst6))
  have HW256 : Hid ((LW.cells ⟨k, p, bs⟩).length = 258) := hid (LW.cells_len HB256.out)
  have HONES := hid (ones_LW ⟨k, p, bs⟩)
  obtain ⟨WC, hWC⟩ : ∃ WC, WC = LW.cells ⟨k, p, bs⟩ := ⟨_, rfl⟩
  have HWC := hid hWC
  rw [← hWC] at HW256 HONES HBU
  clear hWC
  have hX := hst8.drew
  clear hst8
  refine wp_region_held_drew (S := (fun w' => (loadVarH 33 ⟨g7, 0, none⟩).run Tryz.prog w' = .ok (.slice (some ⟨b, off, none⟩) n c) w' ∧ (loadVarH 84 ⟨b, off, none⟩).run Tryz.prog w' = .ok (.agg (bytesV bs).toArray) w')) (by kernel_rfl) (by exact ⟨ldS [] hX (rfl), ldOAM hX HBA.out HRR.out HM.out⟩) (fun hHeld => ?_)
  refine wpAnyH_take (i := 0) (oi := ⟨some 54, _, _, _, _, _⟩) (v := ?_) rfl (by kernel_rfl) (by kernel_rfl) (by kernel_rfl) (fun _ _ _ h => h) (Or.inl ⟨by rfl, ?_⟩) (by assumption) ?_
  rotate_left
  · intro w hSw; (try dsimp only at hSw); go_simp; try with_reducible rfl
  (try simp only [Act.put, List.setIfInBounds_toArray, List.set_cons_zero, List.set_cons_succ])
  refine wpAnyH_take (i := 1) (oi := ⟨some 55, _, _, _, _, _⟩) (v := ?_) rfl (by kernel_rfl) (by kernel_rfl) (by kernel_rfl) (fun _ _ _ h => h) (Or.inl ⟨by rfl, ?_⟩) (by assumption) ?_
  rotate_left
  · intro w hSw; (try dsimp only at hSw); go_simp; try with_reducible rfl
  (try simp only [Act.put, List.setIfInBounds_toArray, List.set_cons_zero, List.set_cons_succ])
  refine wpAnyH_take (i := 5) (oi := ⟨some 59, _, _, _, _, _⟩) (v := ?_) rfl (by kernel_rfl) (by kernel_rfl) (by kernel_rfl) (fun _ _ _ h => h) (Or.inl ⟨by rfl, ?_⟩) (by assumption) ?_
  rotate_left
  · intro w hSw; (try dsimp only at hSw); go_simp; try with_reducible rfl
  (try simp only [Act.put, List.setIfInBounds_toArray, List.set_cons_zero, List.set_cons_succ])
  refine wpAnyH_take (i := 6) (oi := ⟨some 60, _, _, _, _, _⟩) (v := ?_) rfl (by kernel_rfl) (by kernel_rfl) (by kernel_rfl) (fun _ _ _ h => h) (Or.inl ⟨by rfl, ?_⟩) (by assumption) ?_
  rotate_left
  · intro w hSw; (try dsimp only at hSw); go_simp; try with_reducible rfl
  (try simp only [Act.put, List.setIfInBounds_toArray, List.set_cons_zero, List.set_cons_succ])
  refine wpAnyH_take (i := 7) (oi := ⟨some 61, _, _, _, _, _⟩) (v := ?_) rfl (by kernel_rfl) (by kernel_rfl) (by kernel_rfl) (fun _ _ _ h => h) (Or.inl ⟨by rfl, ?_⟩) (by assumption) ?_
  rotate_left
  · intro w hSw; (try dsimp only at hSw); go_simp; try with_reducible rfl
  (try simp only [Act.put, List.setIfInBounds_toArray, List.set_cons_zero, List.set_cons_succ])
  refine wpAnyH_take (i := 2) (oi := ⟨some 56, _, _, _, _, _⟩) (v := ?_) rfl (by kernel_rfl) (by kernel_rfl) (by kernel_rfl) (fun _ _ _ h => h) (Or.inl ⟨by rfl, ?_⟩) (by assumption) ?_
  rotate_left
  · intro w hSw; (try dsimp only at hSw); go_simp; try with_reducible rfl
  (try simp only [Act.put, List.setIfInBounds_toArray, List.set_cons_zero, List.set_cons_succ])
  refine wpAnyH_take (i := 8) (oi := ⟨some 62, _, _, _, _, _⟩) (v := ?_) rfl (by kernel_rfl) (by kernel_rfl) (by kernel_rfl) (fun _ _ _ h => h) (Or.inl ⟨by rfl, ?_⟩) (by assumption) ?_
  rotate_left
  · intro w hSw; (try dsimp only at hSw); go_simp; try with_reducible rfl
  (try simp only [Act.put, List.setIfInBounds_toArray, List.set_cons_zero, List.set_cons_succ])
  refine wpAnyH_take (i := 3) (oi := ⟨some 57, _, _, _, _, _⟩) (v := ?_) rfl (by kernel_rfl) (by kernel_rfl) (by kernel_rfl) (fun _ _ _ h => h) (Or.inl ⟨by rfl, ?_⟩) (by assumption) ?_
  rotate_left
  · intro w hSw; (try dsimp only at hSw); go_simp; try with_reducible rfl
  (try simp only [Act.put, List.setIfInBounds_toArray, List.set_cons_zero, List.set_cons_succ])
  refine wpAnyH_take (i := 9) (oi := ⟨some 63, _, _, _, _, _⟩) (v := ?_) rfl (by kernel_rfl) (by kernel_rfl) (by kernel_rfl) (fun _ _ _ h => h) (Or.inl ⟨by rfl, ?_⟩) (by assumption) ?_
  rotate_left
  · intro w hSw; (try dsimp only at hSw); go_simp; try with_reducible rfl
  (try simp only [Act.put, List.setIfInBounds_toArray, List.set_cons_zero, List.set_cons_succ])
  refine wpAnyH_ready (rs := [4, 10]) (by kernel_rfl) (by simp) ?_
  refine (AllReadyH.cons (o := ⟨some 58, _, _, _, _, _⟩) rfl (fun K hK => ?_) (AllReadyH.cons (o := ⟨some 64, _, _, _, _, _⟩) rfl (fun K hK => ?_) AllReadyH.nil))
  · rw [if_pos (by rfl)]
    refine ow_of_wl (ops := #[]) (by rfl) ?_
    refine wl_loadE rfl rfl rfl ?_
    refine ⟨_, Loads.at [_] hX rfl, ?_⟩
    refine q0_nil ?_
    refine hK.out _ _ ?_ (fun hHeld => ?_)
    · exact ⟨ldS [] hX (rfl), ldOAM hX HBA.out HRR.out HM.out⟩
    clear hK K
    (try simp only [Act.put, List.setIfInBounds_toArray, List.set_cons_zero, List.set_cons_succ])
    refine wpAnyH_ready (rs := [10]) (by kernel_rfl) (by simp) ?_
    refine (AllReadyH.cons (o := ⟨some 64, _, _, _, _, _⟩) rfl (fun K hK => ?_) AllReadyH.nil)
    rw [if_pos (by rfl)]
    refine ow_of_wl (ops := #[]) (by rfl) ?_
    refine wl_buildX (cs := WC) [(0, .int .i64 (k : Int)), (1, .int .i64 (p : Int)), (2, .agg (bytesV bs).toArray)] rfl rfl (by exact rfl) HBU.out ?_
    refine q0_nil ?_
    refine hK.out _ _ ?_ (fun hHeld => ?_)
    · exact ⟨ldS [] hX (rfl), ldOAM hX HBA.out HRR.out HM.out⟩
    clear hK K
    (try simp only [Act.put, List.setIfInBounds_toArray, List.set_cons_zero, List.set_cons_succ])
    refine wpAnyH_ready (rs := [11]) (by kernel_rfl) (by simp) ?_
    refine (AllReadyH.cons (o := ⟨some 65, _, _, _, _, _⟩) rfl (fun K hK => ?_) AllReadyH.nil)
    rw [if_pos (by rfl)]
    refine ow_of_wl (ops := #[]) (by rfl) ?_
    apply wl_bsX [.agg WC.toArray] WC hX
    rfl
    rfl
    exact rfl
    exact (List.append_nil _)
    infer_instance
    infer_instance
    (show ((WC.toArray.size == 258) && true) = true; rw [List.size_toArray, HW256.out]; rfl)
    rfl
    rfl
    intro gb w11 hZ1
    refine q0_nil ?_
    refine hK.out _ _ ?_ (fun hHeld => ?_)
    · exact ⟨ldS [_] hZ1 (rfl), ldOAM hZ1 HBA.out HRR.out HM.out⟩
    clear hK K
    (try simp only [Act.put, List.setIfInBounds_toArray, List.set_cons_zero, List.set_cons_succ])
    refine wpAnyH_ready (rs := [12]) (by kernel_rfl) (by simp) ?_
    refine (AllReadyH.cons (o := ⟨some 66, _, _, _, _, _⟩) rfl (fun K hK => ?_) AllReadyH.nil)
    rw [if_pos (by rfl)]
    refine ow_of_wl (ops := #[]) (by rfl) ?_
    apply wl_appX (m := 1) (ys := WC) [_, _, _, _] hZ1
    rfl
    rfl
    exact rfl
    exact rfl
    infer_instance
    infer_instance
    infer_instance
    exact Rd.blk (n := 1) hZ1 (.head _) (Nat.le_refl _) (by decide) (by rw [HW256.out]) (by rw [List.drop_zero, List.take_length])
    exact HONES.out
    (have := HLL.out; refine ⟨by decide, by unfold maxLen; omega, by omega⟩)
    intro v9 w12 hZ2 _
    obtain ⟨ao9, c9, rfl, _, _, _⟩ := row_form hZ2 (.tail _ (.tail _ (.tail _ (.tail _ (.head _)))))
    refine q0_nil ?_
    refine hK.out _ _ ?_ (fun hHeld => ?_)
    · exact ⟨ldS [_] hZ2 (rfl), ldOAM hZ2 HBA.out HRR.out HM.out⟩
    clear hK K
    (try simp only [Act.put, List.setIfInBounds_toArray, List.set_cons_zero, List.set_cons_succ])
    refine wpAnyH_take (i := 13) (oi := ⟨some 67, _, _, _, _, _⟩) (v := ?_) rfl (by kernel_rfl) (by kernel_rfl) (by kernel_rfl) (fun _ _ _ h => h) (Or.inl ⟨by rfl, ?_⟩) (by assumption) ?_
    rotate_left
    · intro w hSw; (try dsimp only at hSw); go_simp; try with_reducible rfl
    (try simp only [Act.put, List.setIfInBounds_toArray, List.set_cons_zero, List.set_cons_succ])
    refine wpAnyH_take (i := 14) (oi := ⟨some 68, _, _, _, _, _⟩) (v := ?_) rfl (by kernel_rfl) (by kernel_rfl) (by kernel_rfl) (fun _ _ _ h => h) (Or.inl ⟨by rfl, ?_⟩) (by assumption) ?_
    rotate_left
    · intro w hSw; (try dsimp only at hSw); go_simp; try with_reducible rfl
    (try simp only [Act.put, List.setIfInBounds_toArray, List.set_cons_zero, List.set_cons_succ])
    refine wpAnyH_ready (rs := [15]) (by kernel_rfl) (by simp) ?_
    refine (AllReadyH.cons (o := ⟨none, _, _, _, _, _⟩) rfl (fun K hK => ?_) AllReadyH.nil)
    rw [if_pos (by rfl)]
    refine ow_of_wl (ops := #[]) (by rfl) ?_
    refine wl_store [_, _] hZ2 rfl rfl rfl (v := .slice _ _ _) rfl rfl rfl (by show (1 : Nat) + 1 ≤ 5; decide) ?_
    intro w13 hZ3
    refine q0_nil ?_
    refine hK.out _ _ ?_ (fun hHeld => ?_)
    · exact ⟨ldS [_] hZ3 (rfl), ldOAM hZ3 HBA.out HRR.out HM.out⟩
    clear hK K
    (try simp only [Act.put, List.setIfInBounds_toArray, List.set_cons_zero, List.set_cons_succ])
    refine wpAnyH_done (by kernel_rfl) ?_ _
    clear hHeld
    go_wp2_with (first | go_big_skip | go_big_guard | fail)
    go_ret
    refine ⟨rfl, ⟨x.gd, x.cd, x.rest, .slice ao9 (a1.loose.length + 1) c9⟩, ?_⟩
    rw [HLAY.out, arP_laid HFS.out HL2.out.2.1 HL2.out.1, ← HWC.out, HL2.out.2.2.1, HL2.out.2.2.2.1, HL2.out.2.2.2.2]
    exact St.sub hZ3 (.cons _ (.cons _ (List.Sublist.refl _)))
  · rw [if_pos (by rfl)]
    refine ow_of_wl (ops := #[]) (by rfl) ?_
    refine wl_buildX (cs := WC) [(0, .int .i64 (k : Int)), (1, .int .i64 (p : Int)), (2, .agg (bytesV bs).toArray)] rfl rfl (by exact rfl) HBU.out ?_
    refine q0_nil ?_
    refine hK.out _ _ ?_ (fun hHeld => ?_)
    · exact ⟨ldS [] hX (rfl), ldOAM hX HBA.out HRR.out HM.out⟩
    clear hK K
    (try simp only [Act.put, List.setIfInBounds_toArray, List.set_cons_zero, List.set_cons_succ])
    refine wpAnyH_ready (rs := [4, 11]) (by kernel_rfl) (by simp) ?_
    refine (AllReadyH.cons (o := ⟨some 58, _, _, _, _, _⟩) rfl (fun K hK => ?_) (AllReadyH.cons (o := ⟨some 65, _, _, _, _, _⟩) rfl (fun K hK => ?_) AllReadyH.nil))
    · rw [if_pos (by rfl)]
      refine ow_of_wl (ops := #[]) (by rfl) ?_
      refine wl_loadE rfl rfl rfl ?_
      refine ⟨_, Loads.at [_] hX rfl, ?_⟩
      refine q0_nil ?_
      refine hK.out _ _ ?_ (fun hHeld => ?_)
      · exact ⟨ldS [] hX (rfl), ldOAM hX HBA.out HRR.out HM.out⟩
      clear hK K
      (try simp only [Act.put, List.setIfInBounds_toArray, List.set_cons_zero, List.set_cons_succ])
      refine wpAnyH_ready (rs := [11]) (by kernel_rfl) (by simp) ?_
      refine (AllReadyH.cons (o := ⟨some 65, _, _, _, _, _⟩) rfl (fun K hK => ?_) AllReadyH.nil)
      rw [if_pos (by rfl)]
      refine ow_of_wl (ops := #[]) (by rfl) ?_
      apply wl_bsX [.agg WC.toArray] WC hX
      rfl
      rfl
      exact rfl
      exact (List.append_nil _)
      infer_instance
      infer_instance
      (show ((WC.toArray.size == 258) && true) = true; rw [List.size_toArray, HW256.out]; rfl)
      rfl
      rfl
      intro gb w11 hZ1
      refine q0_nil ?_
      refine hK.out _ _ ?_ (fun hHeld => ?_)
      · exact ⟨ldS [_] hZ1 (rfl), ldOAM hZ1 HBA.out HRR.out HM.out⟩
      clear hK K
      (try simp only [Act.put, List.setIfInBounds_toArray, List.set_cons_zero, List.set_cons_succ])
      refine wpAnyH_ready (rs := [12]) (by kernel_rfl) (by simp) ?_
      refine (AllReadyH.cons (o := ⟨some 66, _, _, _, _, _⟩) rfl (fun K hK => ?_) AllReadyH.nil)
      rw [if_pos (by rfl)]
      refine ow_of_wl (ops := #[]) (by rfl) ?_
      apply wl_appX (m := 1) (ys := WC) [_, _, _, _] hZ1
      rfl
      rfl
      exact rfl
      exact rfl
      infer_instance
      infer_instance
      infer_instance
      exact Rd.blk (n := 1) hZ1 (.head _) (Nat.le_refl _) (by decide) (by rw [HW256.out]) (by rw [List.drop_zero, List.take_length])
      exact HONES.out
      (have := HLL.out; refine ⟨by decide, by unfold maxLen; omega, by omega⟩)
      intro v9 w12 hZ2 _
      obtain ⟨ao9, c9, rfl, _, _, _⟩ := row_form hZ2 (.tail _ (.tail _ (.tail _ (.tail _ (.head _)))))
      refine q0_nil ?_
      refine hK.out _ _ ?_ (fun hHeld => ?_)
      · exact ⟨ldS [_] hZ2 (rfl), ldOAM hZ2 HBA.out HRR.out HM.out⟩
      clear hK K
      (try simp only [Act.put, List.setIfInBounds_toArray, List.set_cons_zero, List.set_cons_succ])
      refine wpAnyH_take (i := 13) (oi := ⟨some 67, _, _, _, _, _⟩) (v := ?_) rfl (by kernel_rfl) (by kernel_rfl) (by kernel_rfl) (fun _ _ _ h => h) (Or.inl ⟨by rfl, ?_⟩) (by assumption) ?_
      rotate_left
      · intro w hSw; (try dsimp only at hSw); go_simp; try with_reducible rfl
      (try simp only [Act.put, List.setIfInBounds_toArray, List.set_cons_zero, List.set_cons_succ])
      refine wpAnyH_take (i := 14) (oi := ⟨some 68, _, _, _, _, _⟩) (v := ?_) rfl (by kernel_rfl) (by kernel_rfl) (by kernel_rfl) (fun _ _ _ h => h) (Or.inl ⟨by rfl, ?_⟩) (by assumption) ?_
      rotate_left
      · intro w hSw; (try dsimp only at hSw); go_simp; try with_reducible rfl
      (try simp only [Act.put, List.setIfInBounds_toArray, List.set_cons_zero, List.set_cons_succ])
      refine wpAnyH_ready (rs := [15]) (by kernel_rfl) (by simp) ?_
      refine (AllReadyH.cons (o := ⟨none, _, _, _, _, _⟩) rfl (fun K hK => ?_) AllReadyH.nil)
      rw [if_pos (by rfl)]
      refine ow_of_wl (ops := #[]) (by rfl) ?_
      refine wl_store [_, _] hZ2 rfl rfl rfl (v := .slice _ _ _) rfl rfl rfl (by show (1 : Nat) + 1 ≤ 5; decide) ?_
      intro w13 hZ3
      refine q0_nil ?_
      refine hK.out _ _ ?_ (fun hHeld => ?_)
      · exact ⟨ldS [_] hZ3 (rfl), ldOAM hZ3 HBA.out HRR.out HM.out⟩
      clear hK K
      (try simp only [Act.put, List.setIfInBounds_toArray, List.set_cons_zero, List.set_cons_succ])
      refine wpAnyH_done (by kernel_rfl) ?_ _
      clear hHeld
      go_wp2_with (first | go_big_skip | go_big_guard | fail)
      go_ret
      refine ⟨rfl, ⟨x.gd, x.cd, x.rest, .slice ao9 (a1.loose.length + 1) c9⟩, ?_⟩
      rw [HLAY.out, arP_laid HFS.out HL2.out.2.1 HL2.out.1, ← HWC.out, HL2.out.2.2.1, HL2.out.2.2.2.1, HL2.out.2.2.2.2]
      exact St.sub hZ3 (.cons _ (.cons _ (List.Sublist.refl _)))
    · rw [if_pos (by rfl)]
      refine ow_of_wl (ops := #[]) (by rfl) ?_
      apply wl_bsX [.agg WC.toArray] WC hX
      rfl
      rfl
      exact rfl
      exact (List.append_nil _)
      infer_instance
      infer_instance
      (show ((WC.toArray.size == 258) && true) = true; rw [List.size_toArray, HW256.out]; rfl)
      rfl
      rfl
      intro gb w11 hZ1
      refine q0_nil ?_
      refine hK.out _ _ ?_ (fun hHeld => ?_)
      · exact ⟨ldS [_] hZ1 (rfl), ldOAM hZ1 HBA.out HRR.out HM.out⟩
      clear hK K
      (try simp only [Act.put, List.setIfInBounds_toArray, List.set_cons_zero, List.set_cons_succ])
      refine wpAnyH_ready (rs := [4]) (by kernel_rfl) (by simp) ?_
      refine (AllReadyH.cons (o := ⟨some 58, _, _, _, _, _⟩) rfl (fun K hK => ?_) AllReadyH.nil)
      rw [if_pos (by rfl)]
      refine ow_of_wl (ops := #[]) (by rfl) ?_
      refine wl_loadE rfl rfl rfl ?_
      refine ⟨_, Loads.at [_, _] hZ1 rfl, ?_⟩
      refine q0_nil ?_
      refine hK.out _ _ ?_ (fun hHeld => ?_)
      · exact ⟨ldS [_] hZ1 (rfl), ldOAM hZ1 HBA.out HRR.out HM.out⟩
      clear hK K
      (try simp only [Act.put, List.setIfInBounds_toArray, List.set_cons_zero, List.set_cons_succ])
      refine wpAnyH_ready (rs := [12]) (by kernel_rfl) (by simp) ?_
      refine (AllReadyH.cons (o := ⟨some 66, _, _, _, _, _⟩) rfl (fun K hK => ?_) AllReadyH.nil)
      rw [if_pos (by rfl)]
      refine ow_of_wl (ops := #[]) (by rfl) ?_
      apply wl_appX (m := 1) (ys := WC) [_, _, _, _] hZ1
      rfl
      rfl
      exact rfl
      exact rfl
      infer_instance
      infer_instance
      infer_instance
      exact Rd.blk (n := 1) hZ1 (.head _) (Nat.le_refl _) (by decide) (by rw [HW256.out]) (by rw [List.drop_zero, List.take_length])
      exact HONES.out
      (have := HLL.out; refine ⟨by decide, by unfold maxLen; omega, by omega⟩)
      intro v9 w12 hZ2 _
      obtain ⟨ao9, c9, rfl, _, _, _⟩ := row_form hZ2 (.tail _ (.tail _ (.tail _ (.tail _ (.head _)))))
      refine q0_nil ?_
      refine hK.out _ _ ?_ (fun hHeld => ?_)
      · exact ⟨ldS [_] hZ2 (rfl), ldOAM hZ2 HBA.out HRR.out HM.out⟩
      clear hK K
      (try simp only [Act.put, List.setIfInBounds_toArray, List.set_cons_zero, List.set_cons_succ])
      refine wpAnyH_take (i := 13) (oi := ⟨some 67, _, _, _, _, _⟩) (v := ?_) rfl (by kernel_rfl) (by kernel_rfl) (by kernel_rfl) (fun _ _ _ h => h) (Or.inl ⟨by rfl, ?_⟩) (by assumption) ?_
      rotate_left
      · intro w hSw; (try dsimp only at hSw); go_simp; try with_reducible rfl
      (try simp only [Act.put, List.setIfInBounds_toArray, List.set_cons_zero, List.set_cons_succ])
      refine wpAnyH_take (i := 14) (oi := ⟨some 68, _, _, _, _, _⟩) (v := ?_) rfl (by kernel_rfl) (by kernel_rfl) (by kernel_rfl) (fun _ _ _ h => h) (Or.inl ⟨by rfl, ?_⟩) (by assumption) ?_
      rotate_left
      · intro w hSw; (try dsimp only at hSw); go_simp; try with_reducible rfl
      (try simp only [Act.put, List.setIfInBounds_toArray, List.set_cons_zero, List.set_cons_succ])
      refine wpAnyH_ready (rs := [15]) (by kernel_rfl) (by simp) ?_
      refine (AllReadyH.cons (o := ⟨none, _, _, _, _, _⟩) rfl (fun K hK => ?_) AllReadyH.nil)
      rw [if_pos (by rfl)]
      refine ow_of_wl (ops := #[]) (by rfl) ?_
      refine wl_store [_, _] hZ2 rfl rfl rfl (v := .slice _ _ _) rfl rfl rfl (by show (1 : Nat) + 1 ≤ 5; decide) ?_
      intro w13 hZ3
      refine q0_nil ?_
      refine hK.out _ _ ?_ (fun hHeld => ?_)
      · exact ⟨ldS [_] hZ3 (rfl), ldOAM hZ3 HBA.out HRR.out HM.out⟩
      clear hK K
      (try simp only [Act.put, List.setIfInBounds_toArray, List.set_cons_zero, List.set_cons_succ])
      refine wpAnyH_done (by kernel_rfl) ?_ _
      clear hHeld
      go_wp2_with (first | go_big_skip | go_big_guard | fail)
      go_ret
      refine ⟨rfl, ⟨x.gd, x.cd, x.rest, .slice ao9 (a1.loose.length + 1) c9⟩, ?_⟩
      rw [HLAY.out, arP_laid HFS.out HL2.out.2.1 HL2.out.1, ← HWC.out, HL2.out.2.2.1, HL2.out.2.2.2.1, HL2.out.2.2.2.2]
      exact St.sub hZ3 (.cons _ (.cons _ (List.Sublist.refl _)))
end
end Go.Proofs.YtclleohpmgihaaaGreat
