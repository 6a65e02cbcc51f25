import Derived.Test.YtmdfbdfijnmhkaaGreatR22
namespace Go.Proofs.YtmdfbdfijnmhkaaGreat
set_option linter.unusedVariables false
set_option linter.unusedSimpArgs false
open Go.RowKit Hp
attribute [local irreducible] Go.Calls Go.wpList
set_option maxRecDepth 100000
set_option maxHeartbeats 4000000
instance rSB : TyS Tryz.prog 47 := ⟨by kernel_rfl⟩
instance rSlB : TySl Tryz.prog 47 4 := ⟨by kernel_rfl⟩
instance rEB : TyE Tryz.prog 4 1 1 := ⟨by kernel_rfl⟩
def boolsV (l : List Bool) : List Value := l.map .bool
theorem boolsV_get {l : List Bool} {j : Nat} (h : j < l.length) : (boolsV l)[j]? = some (.bool (l.getD j false)) := by
  simp [boolsV, List.getD, h]
theorem slice256 (b o t : Nat) (ht : t ≤ 256) (w : World) : (Instr.sliceAt 144 (.pointer (some ⟨b, o, none⟩)) none (some (.int .i64 (t : Int))) none).run Tryz.prog w = .ok (.slice (some ⟨b, o, none⟩) t 256) w := by
  have hl : Tryz.prog.arrayLen 144 = 256 := by kernel_rfl
  have hz : ∀ w, (sizeOf (Tryz.prog.elem 144)).run Tryz.prog w = .ok 1 w := fun w => by kernel_rfl
  rw [run_sliceAt_array_h w 144 _ (by kernel_rfl) .i64 (t : Int) (by omega) (by rw [hl]; omega), hz, hl]
  simp [slicedAt, Addr.add_mid]
section
attribute [local go_sem ↓] loadedSD loadedIn loadedSS
theorem crash_odd {w : World} {ga : Nat} {x : GA} {a : AR} (hS : St w (arF ga x a) w (arP ga x a)) (ok : a.Ok) (hll : a.loose.length < 1000000) (kao : Option Addr) (kn kc : Nat) (keep : List Bool) (hr : Rd w (.slice kao kn kc) 1 kn (boolsV keep)) (hn : keep.length = kn) (ho : Off (.slice kao kn kc) (arF ga x a)) (torn : Int) (h1 : (decide (0 ≤ torn) && decide (torn < 256)) = false) :
    Calls Tryz.prog 53 #[.pointer (some ⟨ga, 0, none⟩), .slice kao kn kc, .int .i64 torn] w fun e w' => e = .returned (.int .i64 (a.crashE torn)) ∧ ∃ x', St w (arF ga x a) w' (arP ga x' (a.crash keep torn)) := by
  have he : a.crashE torn = 2 := by unfold AR.crashE; rw [if_neg ok.d0, h1]; rfl
  have hc : a.crash keep torn = a := by unfold AR.crash; rw [he]; rfl
  rw [he, hc]
  have HE : Hid (orE (decide (0 ≤ torn) && decide (torn < 256)) 2 = 2) := hid (by rw [h1]; rfl)
  have H1 : Hid (firstE [0] = 0) := hid rfl
  have OK := hid ok
  have hst0 := hS
  have hmf := rmf
  clear he hc h1 ok hS hr hn ho
  go_enter Tryz.func53, Tryz.ntmps53
  go_wp2_with (first | go_big_skip | go_big_guard | (refine wl_box hst0 rfl rfl rfl ?_; intro g5 w1 hst1; clear hst0) | (apply wl_bsX ([methV 46 (ptrV ga), cloV 103 [ptrV g5]]) ([methV 46 (ptrV ga), cloV 103 [ptrV g5]]) hst1; rfl; rfl; exact rfl; exact rfl; infer_instance; infer_instance; rfl; rfl; rfl; intro gs w2 hst2; clear hst1) | (go_at_call 45; have hC := checks_any (-1) (v := .slice (some ⟨gs, 0, none⟩) 2 2) (n := 2) (fs := [methV 46 (ptrV ga)]) (f9 := cloV 103 [ptrV g5]) (es := [0]) (e9 := orE (decide (0 ≤ torn) && decide (torn < 256)) 2) (A := (fun w' => St w (arF ga x a) w' (([HA.blk gs 92 [methV 46 (ptrV ga), cloV 103 [ptrV g5]], .blk g5 3 [.int .i64 torn]] : List HA) ++ arP ga x a))) (B := (fun w' => St w (arF ga x a) w' (([HA.blk gs 92 [methV 46 (ptrV ga), cloV 103 [ptrV g5]], .blk g5 3 [.int .i64 torn]] : List HA) ++ arP ga x a))) _ (fun _ h => Rd.blk h (.head _) (Nat.le_refl _) (by decide) rfl rfl) rfl rfl (by decide) (fun j f e hf he _ => (match j, hf, he with | 0, hf, he => (by cases hf; cases he; exact probe_made (fun _ h => ArrAt.of h (fun p hp => List.mem_append_right _ hp) OK.out.d0) keeps_st) | j + 1, hf, _ => (by simp at hf))) (fun _ => probe_clo (fun _ _ => rfl) fun w h => (crash1_any (St.cell h (off := 0) (.tail _ (.head _)) rfl)).mono fun _ _ ⟨e, h4⟩ => ⟨e, keeps_st _ _ h h4⟩) hst2; rw [HE.out] at hC; refine hC.mono ?_; rintro _ w5 hh; obtain ⟨rfl, h4⟩ := checks_last H1.out (by decide) hh; clear hC hh hst2; have hst3 := h4; clear h4) | (go_at_call 47; refine (number_isE 2 (-1) (by unfold isE; decide) (by decide) _).mono ?_; rintro _ w6 ⟨rfl, h4⟩; have hst6 := St.call0 hst3 h4; clear h4 hst3))
  go_ret
  exact ⟨rfl, x, St.sub hst6 (List.sublist_append_right _ _)⟩
theorem crash_fine {w : World} {ga : Nat} {x : GA} {a : AR} (hS : St w (arF ga x a) w (arP ga x a)) (ok : a.Ok) (hll : a.loose.length < 1000000) (kao : Option Addr) (kn kc : Nat) (keep : List Bool) (hr : Rd w (.slice kao kn kc) 1 kn (boolsV keep)) (hn : keep.length = kn) (ho : Off (.slice kao kn kc) (arF ga x a)) (t : Nat) (ht : t < 256) :
    Calls Tryz.prog 53 #[.pointer (some ⟨ga, 0, none⟩), .slice kao kn kc, .int .i64 (t : Int)] w fun e w' => e = .returned (.int .i64 (a.crashE (t : Int))) ∧ ∃ x', St w (arF ga x a) w' (arP ga x' (a.crash keep (t : Int))) := by
  have hbb : (decide ((0 : Int) ≤ (t : Int)) && decide ((t : Int) < 256)) = true := by simp only [Bool.and_eq_true, decide_eq_true_eq]; omega
  have he : a.crashE (t : Int) = 0 := by unfold AR.crashE; rw [if_neg ok.d0, hbb]; rfl
  have hc : a.crash keep (t : Int) = a.crashed keep t := by unfold AR.crash; rw [he]; rfl
  rw [he, hc]
  have HE : Hid (orE (decide ((0 : Int) ≤ (t : Int)) && decide ((t : Int) < 256)) 2 = 0) := hid (by rw [hbb]; rfl)
  have H1 : Hid (firstE [0] = 0) := hid rfl
  obtain ⟨lao, lc, hlv, _, _, _⟩ := row_form hS (.tail _ (.tail _ (.head _)))
  have HLV := hid hlv
  have HN := hid hn
  have HR := hid hr
  have HO := hid ho
  have HLW := hid ok.lw
  have HGD := hid (fun j => crashN_good ok keep (t := t) (by omega) j)
  have HCS := hid (fun j wj => crashN_succ (a := a) (keep := keep) (t := t) (j := j) (w := wj))
  have HFIN : Hid (∀ (rest : List Value), arP ga ⟨x.gd, x.cd, rest, .slice none 0 0⟩ (a.crashed keep t) = .blk ga 109 [.slice (some ⟨x.gd, 0, none⟩) a.devs.length x.cd, .slice none 0 0, .int .i64 (-1), .bool false, .int .i64 a.steps] :: .blk x.gd 89 (devC (cleanN (crashN a keep t a.loose.length).1 a.devs.length) ++ rest) :: .row (.slice none 0 0) 149 258 0 [] :: (crashN a keep t a.loose.length).1.devs.map blkD) := hid (fun rest => by
    have hlen := (crashN_good ok keep (t := t) (by omega) a.loose.length).len
    have e1 : devC (cleanN (crashN a keep t a.loose.length).1 a.devs.length) = devC (a.crashed keep t) := by
      unfold devC AR.crashed
      rw [← hlen, cleanN_all]
    have e2 : (a.crashed keep t).devs.map blkD = (crashN a keep t a.loose.length).1.devs.map blkD := blk_clean _
    have e3 : (a.crashed keep t).devs.length = a.devs.length := by rw [← hlen]; simp [AR.crashed]
    rw [e1, ← e2]
    show HA.blk ga _ [.slice _ (a.crashed keep t).devs.length _, _, _, _, _] :: _ = _
    rw [e3]
    rfl)
  obtain ⟨nl, hnl⟩ : ∃ nl, nl = a.loose.length := ⟨_, rfl⟩
  have HNL := hid hnl
  have hnlb : nl < 1000000 := by rw [hnl]; exact hll
  obtain ⟨B, hB⟩ : ∃ B : Nat → AR × Bool, B = crashN a keep t := ⟨_, rfl⟩
  have HB0 : Hid (B 0 = (a, true)) := hid (by rw [hB]; rfl)
  rw [← hB] at HGD HCS HFIN
  rw [← hnl] at HFIN hlv HLV
  have hsl := fun b o => slice256 b o t (by omega)
  have hdn := ok.dn
  have OK := hid ok
  have hst0 := hS
  have hmf := rmf
  clear he hc hbb ok hS hr hn ho hlv hnl hB
  go_enter Tryz.func53, Tryz.ntmps53
  go_wp2_with (first | go_big_skip | go_big_guard | (refine wl_box hst0 rfl rfl rfl ?_; intro g5 w1 hst1; clear hst0) | (apply wl_bsX ([methV 46 (ptrV ga), cloV 103 [ptrV g5]]) ([methV 46 (ptrV ga), cloV 103 [ptrV g5]]) hst1; rfl; rfl; exact rfl; exact rfl; infer_instance; infer_instance; rfl; rfl; rfl; intro gs w2 hst2; clear hst1) | (go_at_call 45; have hC := checks_any (-1) (v := .slice (some ⟨gs, 0, none⟩) 2 2) (n := 2) (fs := [methV 46 (ptrV ga)]) (f9 := cloV 103 [ptrV g5]) (es := [0]) (e9 := orE (decide (0 ≤ (t : Int)) && decide ((t : Int) < 256)) 2) (A := (fun w' => St w (arF ga x a) w' (([HA.blk gs 92 [methV 46 (ptrV ga), cloV 103 [ptrV g5]], .blk g5 3 [.int .i64 (t : Int)]] : List HA) ++ arP ga x a))) (B := (fun w' => St w (arF ga x a) w' (([HA.blk gs 92 [methV 46 (ptrV ga), cloV 103 [ptrV g5]], .blk g5 3 [.int .i64 (t : Int)]] : List HA) ++ arP ga x a))) _ (fun _ h => Rd.blk h (.head _) (Nat.le_refl _) (by decide) rfl rfl) rfl rfl (by decide) (fun j f e hf he _ => (match j, hf, he with | 0, hf, he => (by cases hf; cases he; exact probe_made (fun _ h => ArrAt.of h (fun p hp => List.mem_append_right _ hp) OK.out.d0) keeps_st) | j + 1, hf, _ => (by simp at hf))) (fun _ => probe_clo (fun _ _ => rfl) fun w h => (crash1_any (St.cell h (off := 0) (.tail _ (.head _)) rfl)).mono fun _ _ ⟨e, h4⟩ => ⟨e, keeps_st _ _ h h4⟩) hst2; rw [HE.out] at hC; refine hC.mono ?_; rintro _ w5 hh; obtain ⟨rfl, h4⟩ := checks_fine H1.out hh; clear hC hh hst2; have hst3 : St w (arF ga x a) w5 (.blk g5 3 [.int .i64 (t : Int)] :: .blk ga 109 [.slice (some ⟨x.gd, 0, none⟩) a.devs.length x.cd, .slice lao nl lc, .int .i64 a.fuse, .bool a.out, .int .i64 a.steps] :: .blk x.gd 89 (devC a ++ x.rest) :: .row (.slice lao nl lc) 149 258 nl (looV a.loose) :: a.devs.map blkD) := (by rw [← HLV.out, HNL.out]; exact St.sub h4 (.cons _ (List.Sublist.refl _))); clear h4) | (refine wl_loadE rfl rfl rfl ?_; first | refine ⟨_, Loads.at [_] hst3 rfl, ?_⟩))
  go_loopw [28, 8] (fun i f wr => ∃ j : Nat, j ≤ nl ∧ i = .int .i64 (j : Int) ∧ f = .bool (B j).2 ∧ St w (arF ga x a) wr (.blk g5 3 [.int .i64 (t : Int)] :: .blk ga 109 [.slice (some ⟨x.gd, 0, none⟩) a.devs.length x.cd, .slice lao nl lc, .int .i64 a.fuse, .bool a.out, .int .i64 a.steps] :: .blk x.gd 89 (devC a ++ x.rest) :: .row (.slice lao nl lc) 149 258 nl (looV a.loose) :: (B j).1.devs.map blkD)) (fun i _ _ => nl - (intOf i).toNat)
  case atStart => exact ⟨0, Nat.zero_le _, rfl, by rw [HB0.out], by rw [HB0.out]; exact hst3⟩
  case round =>
    clear hst3
    obtain ⟨j, hj, rfl, rfl, hst⟩ := hrel
    by_cases hlj : j < nl
    · have d1 : decide ((j : Int) < (nl : Int)) = true := decide_eq_true (by omega)
      have z1 : IntKind.i64.wrap ((j : Int) + 1) = (j : Int) + 1 := IntWalk.i64_in _ (by omega)
      obtain ⟨v, hv⟩ : ∃ v, a.loose[j]? = some v := ⟨_, List.getElem?_eq_getElem (by rw [← HNL.out]; exact hlj)⟩
      have hvw := HLW.out v (List.mem_of_getElem? hv)
      have hgd := HGD.out j
      have hinA : a.inD (v.dev : Int) = true := by
        unfold AR.inD
        simp only [Bool.and_eq_true, decide_eq_true_eq]
        omega
      have hin : (B j).1.inD (v.dev : Int) = true := by rw [hgd.inD]; exact hinA
      have hltd : v.dev < a.devs.length := hvw.1
      obtain ⟨D, hD⟩ : ∃ D, D = (B j).1.dv (v.dev : Int) := ⟨_, rfl⟩
      have hfm := hgd.fm _ (List.mem_of_getElem? (devs_get hin))
      rw [← hD] at hfm
      have hlp : v.pl < D.firm.length := by rw [hfm.1]; exact hvw.2.1
      have HDC : Hid ((devC a ++ x.rest)[v.dev * 5]? = some (.slice (some ⟨D.g, 0, none⟩) D.firm.length D.firm.length)) := hid (by rw [← hgd.cel, hD]; exact devC_get hin (i := 0) rfl (by decide))
      obtain ⟨FS1, hFS1⟩ : ∃ FS1, FS1 = ((B j).1.devs.take v.dev).map blkD := ⟨_, rfl⟩
      obtain ⟨FS2, hFS2⟩ : ∃ FS2, FS2 = ((B j).1.devs.drop (v.dev + 1)).map blkD := ⟨_, rfl⟩
      have HS0 : Hid ((B j).1.devs.map blkD = FS1 ++ .blk D.g 144 (secsV D.firm) :: FS2) := hid (by rw [hFS1, hFS2, hD]; exact devs_split0 hin)
      have HSF : Hid (∀ f : DV → DV, ((B j).1.upd (v.dev : Int) f).devs.map blkD = FS1 ++ blkD (f D) :: FS2) := hid (fun f => by rw [hFS1, hFS2, hD]; exact devs_split hin f)
      have HNX := hid (HCS.out j v hv)
      obtain ⟨lb, lo, rfl, hlr⟩ := Rd.at (Rd.row hst (.tail _ (.tail _ (.tail _ (.head _))))) hlj
      have HWR := hid (range_flat (sz := 258) (f := LW.cells) (fun d hd => LW.cells_len (HLW.out d hd).2.2) hv hlr)
      have HV258 := hid (LW.cells_len hvw.2.2)
      have HB256 := hid (show (bytesV v.b).length = 256 by rw [length_bytesV]; exact hvw.2.2)
      have HSET := hid (secs_put (l := D.firm) (p := v.pl) (b := v.b) hfm.2 hvw.2.2 hlp)
      have HTRN := hid (secs_part (l := D.firm) (p := v.pl) (b := v.b) (t := t) hfm.2 hvw.2.2 hlp (by omega))
      have HTL := hid (show (bytesV (v.b.take t)).length = t by rw [length_bytesV, List.length_take, hvw.2.2]; omega)
      have HLEN := hid (show v.pl * 256 + 256 ≤ (secsV D.firm).length by rw [secsV_len hfm.2]; omega)
      rw [HS0.out] at hst
      obtain ⟨first, hfirst⟩ : ∃ first, first = (B j).2 := ⟨_, rfl⟩
      have HFI := hid hfirst
      rw [← hfirst]
      obtain ⟨SC, hSC⟩ : ∃ SC, SC = secsV D.firm := ⟨_, rfl⟩
      rw [← hSC] at hst HSET HLEN HTRN
      have HSC := hid hSC
      clear hv hvw hgd hinA hin hD hfm hFS1 hFS2 hlr hfirst hSC
      go_wp2_with (first | go_big_skip | go_big_guard | (refine wl_index (k := j) rfl rfl rfl rfl hlj ?_) | (refine wl_loadE rfl rfl rfl ?_; refine ⟨_, Loads.range (T := 149) (cs := v.cells) (by rw [HV258.out]; exact TyA.out) HWR.out, ?_⟩) | (refine wl_alloc (T := 149) hst rfl rfl ?_; intro g10 _ hst2; clear hst) | (refine wl_storeA (T := 149) (vs := v.cells) [] hst2 rfl rfl rfl rfl HV258.out (ones_LW _) (by rw [List.length_cons, List.length_cons, List.length_replicate]) ?_; intro w4 hst3; clear hst2))
      have hW := hst3.drew
      clear hst3
      refine wp_region_held_drew (S := (fun w' => (loadVarH 106 ⟨ga, 0, none⟩).run Tryz.prog w' = .ok (.slice (some ⟨x.gd, 0, none⟩) a.devs.length x.cd) w' ∧ (loadVarH 3 ⟨g10, 0, none⟩).run Tryz.prog w' = .ok (.int .i64 (v.dev : Int)) w' ∧ (loadVarH 86 ⟨x.gd, v.dev * 5, none⟩).run Tryz.prog w' = .ok (.slice (some ⟨D.g, 0, none⟩) D.firm.length D.firm.length) w' ∧ (loadVarH 3 ⟨g10, 1, none⟩).run Tryz.prog w' = .ok (.int .i64 (v.pl : Int)) w')) (by kernel_rfl) (by exact ⟨ldS [_, _] hW (rfl), ldS [] hW (rfl), ldS [_, _, _] hW (HDC.out), ldS [] hW (rfl)⟩) (fun hHeld => ?_)
      refine wpAnyH_take (i := 0) (oi := ⟨some 33, _, _, _, _, _⟩) (v := ?_) rfl (by kernel_rfl) (by kernel_rfl) (by kernel_rfl) (fun _ _ _ h => h) (Or.inl ⟨by rfl, ?_⟩) (by assumption) ?_
      rotate_left
      · intro w hSw; (try dsimp only at hSw); go_simp; try with_reducible rfl
      (try simp only [Act.put, List.setIfInBounds_toArray, List.set_cons_zero, List.set_cons_succ])
      refine wpAnyH_take (i := 4) (oi := ⟨some 37, _, _, _, _, _⟩) (v := ?_) rfl (by kernel_rfl) (by kernel_rfl) (by kernel_rfl) (fun _ _ _ h => h) (Or.inl ⟨by rfl, ?_⟩) (by assumption) ?_
      rotate_left
      · intro w hSw; (try dsimp only at hSw); go_simp; try with_reducible rfl
      (try simp only [Act.put, List.setIfInBounds_toArray, List.set_cons_zero, List.set_cons_succ])
      refine wpAnyH_take (i := 9) (oi := ⟨some 42, _, _, _, _, _⟩) (v := ?_) rfl (by kernel_rfl) (by kernel_rfl) (by kernel_rfl) (fun _ _ _ h => h) (Or.inl ⟨by rfl, ?_⟩) (by assumption) ?_
      rotate_left
      · intro w hSw; (try dsimp only at hSw); go_simp; try with_reducible rfl
      (try simp only [Act.put, List.setIfInBounds_toArray, List.set_cons_zero, List.set_cons_succ])
      refine wpAnyH_take (i := 1) (oi := ⟨some 34, _, _, _, _, _⟩) (v := ?_) rfl (by kernel_rfl) (by kernel_rfl) (by kernel_rfl) (fun _ _ _ h => h) (Or.inl ⟨by rfl, ?_⟩) (by assumption) ?_
      rotate_left
      · intro w hSw; (try dsimp only at hSw); go_simp; try with_reducible rfl
      (try simp only [Act.put, List.setIfInBounds_toArray, List.set_cons_zero, List.set_cons_succ])
      refine wpAnyH_take (i := 5) (oi := ⟨some 38, _, _, _, _, _⟩) (v := ?_) rfl (by kernel_rfl) (by kernel_rfl) (by kernel_rfl) (fun _ _ _ h => h) (Or.inl ⟨by rfl, ?_⟩) (by assumption) ?_
      rotate_left
      · intro w hSw; (try dsimp only at hSw); go_simp; try with_reducible rfl
      (try simp only [Act.put, List.setIfInBounds_toArray, List.set_cons_zero, List.set_cons_succ])
      refine wpAnyH_take (i := 10) (oi := ⟨some 43, _, _, _, _, _⟩) (v := ?_) rfl (by kernel_rfl) (by kernel_rfl) (by kernel_rfl) (fun _ _ _ h => h) (Or.inl ⟨by rfl, ?_⟩) (by assumption) ?_
      rotate_left
      · intro w hSw; (try dsimp only at hSw); go_simp; try with_reducible rfl
      (try simp only [Act.put, List.setIfInBounds_toArray, List.set_cons_zero, List.set_cons_succ])
      refine wpAnyH_take (i := 2) (oi := ⟨some 35, _, _, _, _, _⟩) (v := ?_) rfl (by kernel_rfl) (by kernel_rfl) (by kernel_rfl) (fun _ _ _ h => h) (Or.inl ⟨by rfl, ?_⟩) (by assumption) ?_
      rotate_left
      · intro w hSw; (try dsimp only at hSw); go_simp; try with_reducible rfl
      (try simp only [Act.put, List.setIfInBounds_toArray, List.set_cons_zero, List.set_cons_succ])
      refine wpAnyH_take (i := 3) (oi := ⟨some 36, _, _, _, _, _⟩) (v := ?_) rfl (by kernel_rfl) (by kernel_rfl) (by kernel_rfl) (fun _ _ _ h => h) (Or.inl ⟨by rfl, ?_⟩) (by assumption) ?_
      rotate_left
      · intro w hSw; (try dsimp only at hSw); go_simp; try with_reducible rfl
      (try simp only [Act.put, List.setIfInBounds_toArray, List.set_cons_zero, List.set_cons_succ])
      refine wpAnyH_take (i := 6) (oi := ⟨some 39, _, _, _, _, _⟩) (v := ?_) rfl (by kernel_rfl) (by kernel_rfl) (by kernel_rfl) (fun _ _ _ h => h) (Or.inl ⟨by rfl, ?_⟩) (by assumption) ?_
      rotate_left
      · intro w hSw; (try dsimp only at hSw); go_simp; try with_reducible rfl
      (try simp only [Act.put, List.setIfInBounds_toArray, List.set_cons_zero, List.set_cons_succ])
      refine wpAnyH_take (i := 7) (oi := ⟨some 40, _, _, _, _, _⟩) (v := ?_) rfl (by kernel_rfl) (by kernel_rfl) (by kernel_rfl) (fun _ _ _ h => h) (Or.inl ⟨by rfl, ?_⟩) (by assumption) ?_
      rotate_left
      · intro w hSw; (try dsimp only at hSw); go_simp; try with_reducible rfl
      (try simp only [Act.put, List.setIfInBounds_toArray, List.set_cons_zero, List.set_cons_succ])
      refine wpAnyH_take (i := 8) (oi := ⟨some 41, _, _, _, _, _⟩) (v := ?_) rfl (by kernel_rfl) (by kernel_rfl) (by kernel_rfl) (fun _ _ _ h => h) (Or.inl ⟨by rfl, ?_⟩) (by assumption) ?_
      rotate_left
      · intro w hSw; (try dsimp only at hSw); go_simp; try with_reducible rfl
      (try simp only [Act.put, List.setIfInBounds_toArray, List.set_cons_zero, List.set_cons_succ])
      refine wpAnyH_take (i := 11) (oi := ⟨some 44, _, _, _, _, _⟩) (v := ?_) rfl (by kernel_rfl) (by kernel_rfl) (by kernel_rfl) (fun _ _ _ h => h) (Or.inl ⟨by rfl, ?_⟩) (by assumption) ?_
      rotate_left
      · intro w hSw; (try dsimp only at hSw); go_simp; try with_reducible rfl
      (try simp only [Act.put, List.setIfInBounds_toArray, List.set_cons_zero, List.set_cons_succ])
      refine wpAnyH_take (i := 12) (oi := ⟨some 11, _, _, _, _, _⟩) (v := ?_) rfl (by kernel_rfl) (by kernel_rfl) (by kernel_rfl) (fun _ _ _ h => h) (Or.inl ⟨by rfl, ?_⟩) (by assumption) ?_
      rotate_left
      · intro w hSw; (try dsimp only at hSw); go_simp; try with_reducible rfl
      (try simp only [Act.put, List.setIfInBounds_toArray, List.set_cons_zero, List.set_cons_succ])
      refine wpAnyH_done (by kernel_rfl) ?_ _
      clear hHeld
      have hst4 := hW
      clear hW
      cases hq : keep.getD j false
      · by_cases hjk : j < kn
        · have d6 : decide ((j : Int) < (kn : Int)) = true := decide_eq_true (by omega)
          cases first
          · have HQ := hid hq
            clear hq
            obtain ⟨kb, ko, rfl, hkr⟩ := Rd.at HR.out hjk
            have HKM := hid (HO.out _ _ _ rfl (by omega))
            have HK := hid (hkr j _ (boolsV_get (by rw [HN.out]; exact hjk)))
            rw [HQ.out] at HK
            go_wp2_with (first | go_big_skip | go_big_guard | (refine wl_index (k := j) rfl rfl rfl rfl hjk ?_) | (refine wl_loadE rfl rfl rfl ?_; first | refine ⟨_, Loads.oldM hst4 (by rw [Nat.mul_one]; exact HK.out) HKM.out, ?_⟩ | refine ⟨_, Loads.atA (T := 144) (bytesV v.b) [] hst4 HB256.out (by show (bytesV v.b).take _ = _; exact List.take_length), ?_⟩))
            go_roundw
            case rel =>
              refine ⟨j + 1, by omega, rfl, ?_, ?_⟩
              · rw [HNX.out, HQ.out, ← Prod.eta (B j), ← HFI.out]
                rfl
              · rw [HNX.out, HQ.out, ← Prod.eta (B j), ← HFI.out]
                show St _ _ _ (_ :: _ :: _ :: _ :: (B j).1.devs.map blkD)
                rw [HS0.out, ← HSC.out]
                exact St.sub hst4 (.cons _ (List.Sublist.refl _))
            case measure => simp [intOf]; omega
          · have HQ := hid hq
            clear hq
            obtain ⟨kb, ko, rfl, hkr⟩ := Rd.at HR.out hjk
            have HKM := hid (HO.out _ _ _ rfl (by omega))
            have HK := hid (hkr j _ (boolsV_get (by rw [HN.out]; exact hjk)))
            rw [HQ.out] at HK
            go_wp2_with (first | go_big_skip | go_big_guard | (refine wl_index (k := j) rfl rfl rfl rfl hjk ?_) | (refine wl_loadE rfl rfl rfl ?_; first | refine ⟨_, Loads.oldM hst4 (by rw [Nat.mul_one]; exact HK.out) HKM.out, ?_⟩ | refine ⟨_, Loads.atA (T := 144) (bytesV v.b) [] hst4 HB256.out (by show (bytesV v.b).take _ = _; exact List.take_length), ?_⟩))
            have hV := hst4.drew
            clear hst4
            refine wp_region_held_drew (S := (fun w' => (loadVarH 3 ⟨g5, 0, none⟩).run Tryz.prog w' = .ok (.int .i64 (t : Int)) w')) (by kernel_rfl) (by exact ldS [_] hV (rfl)) (fun hHeld => ?_)
            refine wpAnyH_take (i := 0) (oi := ⟨some 62, _, _, _, _, _⟩) (v := ?_) rfl (by kernel_rfl) (by kernel_rfl) (by kernel_rfl) (fun _ _ _ h => h) (Or.inl ⟨by rfl, ?_⟩) (by assumption) ?_
            rotate_left
            · intro w hSw; (try dsimp only at hSw); go_simp; try with_reducible rfl
            (try simp only [Act.put, List.setIfInBounds_toArray, List.set_cons_zero, List.set_cons_succ])
            refine wpAnyH_take (i := 2) (oi := ⟨some 64, _, _, _, _, _⟩) (v := ?_) rfl (by kernel_rfl) (by kernel_rfl) (by kernel_rfl) (fun _ _ _ h => h) (Or.inl ⟨by rfl, ?_⟩) (by assumption) ?_
            rotate_left
            · intro w hSw; (try dsimp only at hSw); go_simp; try with_reducible rfl
            (try simp only [Act.put, List.setIfInBounds_toArray, List.set_cons_zero, List.set_cons_succ])
            refine wpAnyH_take (i := 4) (oi := ⟨some 66, _, _, _, _, _⟩) (v := ?_) rfl (by kernel_rfl) (by kernel_rfl) (by kernel_rfl) (fun _ _ _ h => h) (Or.inl ⟨by rfl, ?_⟩) (by assumption) ?_
            rotate_left
            · intro w hSw; (try dsimp only at hSw); go_simp; try with_reducible rfl
            (try simp only [Act.put, List.setIfInBounds_toArray, List.set_cons_zero, List.set_cons_succ])
            refine wpAnyH_take (i := 5) (oi := ⟨some 67, _, _, _, _, _⟩) (v := ?_) rfl (by kernel_rfl) (by kernel_rfl) (by kernel_rfl) (fun _ _ _ h => h) (Or.inl ⟨by rfl, ?_⟩) (by assumption) ?_
            rotate_left
            · intro w hSw; (try dsimp only at hSw); go_simp; try with_reducible rfl
            (try simp only [Act.put, List.setIfInBounds_toArray, List.set_cons_zero, List.set_cons_succ])
            refine wpAnyH_take (i := 1) (oi := ⟨some 63, _, _, _, _, _⟩) (v := ?_) rfl (by kernel_rfl) (by kernel_rfl) (by kernel_rfl) (fun _ _ _ h => h) (Or.inl ⟨by rfl, ?_⟩) (by assumption) ?_
            rotate_left
            · intro w hSw; (try dsimp only at hSw); go_simp; try with_reducible rfl
            (try simp only [Act.put, List.setIfInBounds_toArray, List.set_cons_zero, List.set_cons_succ])
            refine wpAnyH_take (i := 6) (oi := ⟨some 68, _, _, _, _, _⟩) (v := ?_) rfl (by kernel_rfl) (by kernel_rfl) (by kernel_rfl) (fun _ _ _ h => h) (Or.inl ⟨by rfl, ?_⟩) (by assumption) ?_
            rotate_left
            · intro w hSw; (try dsimp only at hSw); go_simp; try with_reducible rfl
            (try simp only [Act.put, List.setIfInBounds_toArray, List.set_cons_zero, List.set_cons_succ])
            refine wpAnyH_take (i := 3) (oi := ⟨some 65, _, _, _, _, _⟩) (v := ?_) rfl (by kernel_rfl) (by kernel_rfl) (by kernel_rfl) (fun _ _ _ h => h) (Or.inl ⟨by rfl, ?_⟩) (by assumption) ?_
            rotate_left
            · intro w hSw; (try dsimp only at hSw); go_simp; try with_reducible rfl
            (try simp only [Act.put, List.setIfInBounds_toArray, List.set_cons_zero, List.set_cons_succ])
            refine wpAnyH_ready (rs := [7]) (by kernel_rfl) (by simp) ?_
            refine (AllReadyH.cons (o := ⟨some 69, _, _, _, _, _⟩) rfl (fun K hK => ?_) AllReadyH.nil)
            rw [if_pos (by rfl)]
            refine ow_of_wl (ops := #[]) (by rfl) ?_
            apply wl_copy (m := t) (xs := bytesV (v.b.take t)) ([_, _, _, _, _] ++ FS1) hV
            rfl
            rfl
            exact rfl
            exact rfl
            infer_instance
            infer_instance
            exact Rd.blk (n := t) (c := 256) (off := 2) hV (.head _) (by omega) (by decide) (by rw [HTL.out, Nat.mul_one]) (by show (bytesV v.b).take _ = _; rw [HTL.out]; unfold bytesV; rw [List.map_take])
            exact ones_bytesV _
            exact Nat.le_refl _
            (have := HLEN.out; omega)
            intro w14 hZ4
            refine q0_nil ?_
            refine hK.out _ _ ?_ (fun hHeld => ?_)
            · exact ldS [_] hZ4 (rfl)
            clear hK K
            (try simp only [Act.put, List.setIfInBounds_toArray, List.set_cons_zero, List.set_cons_succ])
            refine wpAnyH_done (by kernel_rfl) ?_ _
            clear hHeld
            go_wp2_with (first | go_big_skip | go_big_guard | fail)
            go_roundw
            case rel =>
              refine ⟨j + 1, by omega, rfl, ?_, ?_⟩
              · rw [HNX.out, HQ.out, ← Prod.eta (B j), ← HFI.out]
                rfl
              · rw [HNX.out, HQ.out, ← Prod.eta (B j), ← HFI.out]
                show St _ _ _ (_ :: _ :: _ :: _ :: ((B j).1.upd (v.dev : Int) (tornF v.pl v.b t)).devs.map blkD)
                rw [HSF.out]
                show St _ _ _ (_ :: _ :: _ :: _ :: (FS1 ++ .blk D.g _ (secsV (D.firm.set v.pl (v.b.take t ++ (D.firm.getD v.pl []).drop t))) :: FS2))
                rw [← HTRN.out]
                exact St.sub hZ4 (.cons _ (List.Sublist.refl _))
            case measure => simp [intOf]; omega
        · have d6 : decide ((j : Int) < (kn : Int)) = false := decide_eq_false (by omega)
          cases first
          · have HQ := hid hq
            clear hq
            go_wp2_with (first | go_big_skip | go_big_guard | fail)
            go_roundw
            case rel =>
              refine ⟨j + 1, by omega, rfl, ?_, ?_⟩
              · rw [HNX.out, HQ.out, ← Prod.eta (B j), ← HFI.out]
                rfl
              · rw [HNX.out, HQ.out, ← Prod.eta (B j), ← HFI.out]
                show St _ _ _ (_ :: _ :: _ :: _ :: (B j).1.devs.map blkD)
                rw [HS0.out, ← HSC.out]
                exact St.sub hst4 (.cons _ (List.Sublist.refl _))
            case measure => simp [intOf]; omega
          · have HQ := hid hq
            clear hq
            go_wp2_with (first | go_big_skip | go_big_guard | fail)
            have hV := hst4.drew
            clear hst4
            refine wp_region_held_drew (S := (fun w' => (loadVarH 3 ⟨g5, 0, none⟩).run Tryz.prog w' = .ok (.int .i64 (t : Int)) w')) (by kernel_rfl) (by exact ldS [_] hV (rfl)) (fun hHeld => ?_)
            refine wpAnyH_take (i := 0) (oi := ⟨some 62, _, _, _, _, _⟩) (v := ?_) rfl (by kernel_rfl) (by kernel_rfl) (by kernel_rfl) (fun _ _ _ h => h) (Or.inl ⟨by rfl, ?_⟩) (by assumption) ?_
            rotate_left
            · intro w hSw; (try dsimp only at hSw); go_simp; try with_reducible rfl
            (try simp only [Act.put, List.setIfInBounds_toArray, List.set_cons_zero, List.set_cons_succ])
            refine wpAnyH_take (i := 2) (oi := ⟨some 64, _, _, _, _, _⟩) (v := ?_) rfl (by kernel_rfl) (by kernel_rfl) (by kernel_rfl) (fun _ _ _ h => h) (Or.inl ⟨by rfl, ?_⟩) (by assumption) ?_
            rotate_left
            · intro w hSw; (try dsimp only at hSw); go_simp; try with_reducible rfl
            (try simp only [Act.put, List.setIfInBounds_toArray, List.set_cons_zero, List.set_cons_succ])
            refine wpAnyH_take (i := 4) (oi := ⟨some 66, _, _, _, _, _⟩) (v := ?_) rfl (by kernel_rfl) (by kernel_rfl) (by kernel_rfl) (fun _ _ _ h => h) (Or.inl ⟨by rfl, ?_⟩) (by assumption) ?_
            rotate_left
            · intro w hSw; (try dsimp only at hSw); go_simp; try with_reducible rfl
            (try simp only [Act.put, List.setIfInBounds_toArray, List.set_cons_zero, List.set_cons_succ])
            refine wpAnyH_take (i := 5) (oi := ⟨some 67, _, _, _, _, _⟩) (v := ?_) rfl (by kernel_rfl) (by kernel_rfl) (by kernel_rfl) (fun _ _ _ h => h) (Or.inl ⟨by rfl, ?_⟩) (by assumption) ?_
            rotate_left
            · intro w hSw; (try dsimp only at hSw); go_simp; try with_reducible rfl
            (try simp only [Act.put, List.setIfInBounds_toArray, List.set_cons_zero, List.set_cons_succ])
            refine wpAnyH_take (i := 1) (oi := ⟨some 63, _, _, _, _, _⟩) (v := ?_) rfl (by kernel_rfl) (by kernel_rfl) (by kernel_rfl) (fun _ _ _ h => h) (Or.inl ⟨by rfl, ?_⟩) (by assumption) ?_
            rotate_left
            · intro w hSw; (try dsimp only at hSw); go_simp; try with_reducible rfl
            (try simp only [Act.put, List.setIfInBounds_toArray, List.set_cons_zero, List.set_cons_succ])
            refine wpAnyH_take (i := 6) (oi := ⟨some 68, _, _, _, _, _⟩) (v := ?_) rfl (by kernel_rfl) (by kernel_rfl) (by kernel_rfl) (fun _ _ _ h => h) (Or.inl ⟨by rfl, ?_⟩) (by assumption) ?_
            rotate_left
            · intro w hSw; (try dsimp only at hSw); go_simp; try with_reducible rfl
            (try simp only [Act.put, List.setIfInBounds_toArray, List.set_cons_zero, List.set_cons_succ])
            refine wpAnyH_take (i := 3) (oi := ⟨some 65, _, _, _, _, _⟩) (v := ?_) rfl (by kernel_rfl) (by kernel_rfl) (by kernel_rfl) (fun _ _ _ h => h) (Or.inl ⟨by rfl, ?_⟩) (by assumption) ?_
            rotate_left
            · intro w hSw; (try dsimp only at hSw); go_simp; try with_reducible rfl
            (try simp only [Act.put, List.setIfInBounds_toArray, List.set_cons_zero, List.set_cons_succ])
            refine wpAnyH_ready (rs := [7]) (by kernel_rfl) (by simp) ?_
            refine (AllReadyH.cons (o := ⟨some 69, _, _, _, _, _⟩) rfl (fun K hK => ?_) AllReadyH.nil)
            rw [if_pos (by rfl)]
            refine ow_of_wl (ops := #[]) (by rfl) ?_
            apply wl_copy (m := t) (xs := bytesV (v.b.take t)) ([_, _, _, _, _] ++ FS1) hV
            rfl
            rfl
            exact rfl
            exact rfl
            infer_instance
            infer_instance
            exact Rd.blk (n := t) (c := 256) (off := 2) hV (.head _) (by omega) (by decide) (by rw [HTL.out, Nat.mul_one]) (by show (bytesV v.b).take _ = _; rw [HTL.out]; unfold bytesV; rw [List.map_take])
            exact ones_bytesV _
            exact Nat.le_refl _
            (have := HLEN.out; omega)
            intro w14 hZ4
            refine q0_nil ?_
            refine hK.out _ _ ?_ (fun hHeld => ?_)
            · exact ldS [_] hZ4 (rfl)
            clear hK K
            (try simp only [Act.put, List.setIfInBounds_toArray, List.set_cons_zero, List.set_cons_succ])
            refine wpAnyH_done (by kernel_rfl) ?_ _
            clear hHeld
            go_wp2_with (first | go_big_skip | go_big_guard | fail)
            go_roundw
            case rel =>
              refine ⟨j + 1, by omega, rfl, ?_, ?_⟩
              · rw [HNX.out, HQ.out, ← Prod.eta (B j), ← HFI.out]
                rfl
              · rw [HNX.out, HQ.out, ← Prod.eta (B j), ← HFI.out]
                show St _ _ _ (_ :: _ :: _ :: _ :: ((B j).1.upd (v.dev : Int) (tornF v.pl v.b t)).devs.map blkD)
                rw [HSF.out]
                show St _ _ _ (_ :: _ :: _ :: _ :: (FS1 ++ .blk D.g _ (secsV (D.firm.set v.pl (v.b.take t ++ (D.firm.getD v.pl []).drop t))) :: FS2))
                rw [← HTRN.out]
                exact St.sub hZ4 (.cons _ (List.Sublist.refl _))
            case measure => simp [intOf]; omega
      · obtain hjk : j < kn := (by
          rcases Nat.lt_or_ge j kn with h | h
          · exact h
          · rw [List.getD_eq_getElem?_getD, List.getElem?_eq_none (by rw [HN.out]; exact h)] at hq
            cases hq)
        have HQ := hid hq
        clear hq
        have d6 : decide ((j : Int) < (kn : Int)) = true := decide_eq_true (by omega)
        obtain ⟨kb, ko, rfl, hkr⟩ := Rd.at HR.out hjk
        have HKM := hid (HO.out _ _ _ rfl (by omega))
        have HK := hid (hkr j _ (boolsV_get (by rw [HN.out]; exact hjk)))
        rw [HQ.out] at HK
        go_wp2_with (first | go_big_skip | go_big_guard | (refine wl_index (k := j) rfl rfl rfl rfl hjk ?_) | (refine wl_loadE rfl rfl rfl ?_; first | refine ⟨_, Loads.oldM hst4 (by rw [Nat.mul_one]; exact HK.out) HKM.out, ?_⟩ | refine ⟨_, Loads.atA (T := 144) (bytesV v.b) [] hst4 HB256.out (by show (bytesV v.b).take _ = _; exact List.take_length), ?_⟩) | (refine wl_store (T := 144) ([_, _, _, _, _] ++ FS1) hst4 rfl rfl rfl (v := .agg (bytesV v.b).toArray) (n := 256) rfl (by show (bytesV v.b).toArray.size = 256; rw [List.size_toArray]; exact HB256.out) (ones_bytesV _) (by show v.pl * 256 + (bytesV v.b).toArray.size ≤ _; rw [List.size_toArray, HB256.out]; exact HLEN.out) ?_; intro w13 hZ3; clear hst4))
        go_roundw
        case rel =>
          refine ⟨j + 1, by omega, rfl, ?_, ?_⟩
          · rw [HNX.out, HQ.out, ← Prod.eta (B j), ← HFI.out]
            rfl
          · rw [HNX.out, HQ.out, ← Prod.eta (B j), ← HFI.out]
            show St _ _ _ (_ :: _ :: _ :: _ :: ((B j).1.upd (v.dev : Int) (setF v.pl v.b)).devs.map blkD)
            rw [HSF.out]
            show St _ _ _ (_ :: _ :: _ :: _ :: (FS1 ++ .blk D.g _ (secsV (D.firm.set v.pl v.b)) :: FS2))
            rw [← HSET.out]
            exact St.sub hZ3 (.cons _ (List.Sublist.refl _))
        case measure => simp [intOf]; omega
    · have d1 : decide ((j : Int) < (nl : Int)) = false := decide_eq_false (by omega)
      have hjn : j = nl := by omega
      subst hjn
      obtain ⟨b, hb⟩ : ∃ b, b = (B j).1 := ⟨_, rfl⟩
      have hgb := HGD.out j
      rw [← hb] at hst hgb HFIN
      have hbl := hgb.len
      have HBC := hid hgb.cel
      clear hb hgb
      have HC0 : Hid (devC (cleanN b 0) = devC a) := hid (by rw [cleanN_zero]; exact HBC.out)
      obtain ⟨FB, hFB⟩ : ∃ FB, FB = b.devs.map blkD := ⟨_, rfl⟩
      have HFB := hid hFB
      rw [← hFB] at hst HFIN
      clear hFB
      go_wp2_with (first | go_big_skip | go_big_guard | (refine wl_store [_] hst rfl rfl rfl (v := .slice _ _ _) rfl rfl rfl (by show (1 : Nat) + 1 ≤ 5; decide) ?_; intro w7 hst5; clear hst) | (refine wl_store [_] hst5 rfl rfl rfl (v := .bool _) rfl rfl rfl (by show (3 : Nat) + 1 ≤ 5; decide) ?_; intro w8 hst6; clear hst5) | (refine wl_store [_] hst6 rfl rfl rfl (v := .int _ _) rfl rfl rfl (by show (2 : Nat) + 1 ≤ 5; decide) ?_; intro w9 hst7; clear hst6) | (refine wl_loadE rfl rfl rfl ?_; first | refine ⟨_, Loads.at [_] hst7 rfl, ?_⟩))
      replace hst7 : St w (arF ga x a) w9 (.blk g5 3 [.int .i64 (t : Int)] :: .blk ga 109 [.slice (some ⟨x.gd, 0, none⟩) a.devs.length x.cd, .slice none 0 0, .int .i64 (-1), .bool false, .int .i64 a.steps] :: .blk x.gd 89 (devC a ++ x.rest) :: .row (.slice lao j lc) 149 258 j (looV a.loose) :: FB) := hst7
      go_loopw [85] (fun i wr => ∃ k : Nat, k ≤ a.devs.length ∧ i = .int .i64 (k : Int) ∧ St w (arF ga x a) wr (.blk g5 3 [.int .i64 (t : Int)] :: .blk ga 109 [.slice (some ⟨x.gd, 0, none⟩) a.devs.length x.cd, .slice none 0 0, .int .i64 (-1), .bool false, .int .i64 a.steps] :: .blk x.gd 89 (devC (cleanN b k) ++ x.rest) :: .row (.slice lao j lc) 149 258 j (looV a.loose) :: FB)) (fun i _ => a.devs.length - (intOf i).toNat)
      case atStart => exact ⟨0, Nat.zero_le _, rfl, by rw [HC0.out]; exact hst7⟩
      case round =>
        clear hst7
        obtain ⟨k, hk, rfl, hst⟩ := hrel
        by_cases hlk : k < a.devs.length
        · have d7 : decide ((k : Int) < (a.devs.length : Int)) = true := decide_eq_true (by omega)
          have z1 : IntKind.i64.wrap ((k : Int) + 1) = (k : Int) + 1 := IntWalk.i64_in _ (by omega)
          have hin : (cleanN b k).inD (k : Int) = true := by
            unfold AR.inD
            rw [cleanN_len]
            simp only [Bool.and_eq_true, decide_eq_true_eq]
            omega
          have HP1 := hid (devC_put (a := cleanN b k) (dev := (k : Int)) (f := fun d => { d with lo := false, st := false }) (v := .int .u8 0) (rest := x.rest) hin (i := 2) (by decide) rfl)
          have HP2 := hid (devC_put (a := (cleanN b k).upd (k : Int) fun d => { d with lo := false, st := false }) (dev := (k : Int)) (f := fun d => { d with fail := 0 }) (v := .int .i64 0) (rest := x.rest) (by rw [upd_inD]; exact hin) (i := 4) (by decide) rfl)
          rw [upd_upd] at HP2
          have HCN : Hid (cleanN b (k + 1) = (cleanN b k).upd (k : Int) fun d => { d with lo := false, st := false, fail := 0 }) := hid (cleanN_succ (by omega))
          have HL1 := hid (List.getElem?_eq_some_iff.1 (devC_get (a := cleanN b k) (dev := (k : Int)) (rest := x.rest) hin (i := 2) rfl (by decide))).1
          have HL2 := hid (List.getElem?_eq_some_iff.1 (devC_get (a := (cleanN b k).upd (k : Int) fun d => { d with lo := false, st := false }) (dev := (k : Int)) (rest := x.rest) (by rw [upd_inD]; exact hin) (i := 4) rfl (by decide))).1
          replace HL1 : Hid (k * 5 + 2 + 1 ≤ (devC (cleanN b k) ++ x.rest).length) := HL1
          replace HL2 : Hid (k * 5 + 4 + 1 ≤ (devC ((cleanN b k).upd (k : Int) fun d => { d with lo := false, st := false }) ++ x.rest).length) := HL2
          clear hin
          go_wp2_with (first | go_big_skip | go_big_guard | (refine wl_loadE rfl rfl rfl ?_; first | refine ⟨_, Loads.at [_] hst rfl, ?_⟩) | (refine wl_index (k := k) rfl rfl rfl rfl hlk ?_) | (refine wl_store [_, _] hst rfl rfl rfl (v := .int _ _) rfl rfl rfl HL1.out ?_; intro w7 hst5; clear hst; rw [show putAt (devC (cleanN b k) ++ x.rest) (k * 5 + 2) (Value.int .u8 0).cells.toList = _ from HP1.out] at hst5) | (refine wl_store [_, _] hst5 rfl rfl rfl (v := .int _ _) rfl rfl rfl HL2.out ?_; intro w8 hst6; clear hst5))
          go_roundw
          case rel =>
            refine ⟨k + 1, by omega, rfl, ?_⟩
            rw [HCN.out, ← HP2.out]
            exact hst6
          case measure => simp [intOf]; omega
        · have d7 : decide ((k : Int) < (a.devs.length : Int)) = false := decide_eq_false (by omega)
          have hkn : k = a.devs.length := by omega
          go_wp2_with (first | go_big_skip | go_big_guard | fail)
          go_ret
          refine ⟨rfl, ⟨x.gd, x.cd, x.rest, .slice none 0 0⟩, ?_⟩
          rw [HFIN.out, ← hkn]
          rw [← hkn] at hst
          have h8 := St.nilR 149 258 (St.sub (L' := .blk ga 109 _ :: .blk x.gd 89 _ :: FB) hst (.cons _ (.cons_cons _ (.cons_cons _ (.cons _ (List.Sublist.refl _))))))
          exact St.perm h8 ((List.Perm.swap _ _ _).trans (List.Perm.cons _ (List.Perm.swap _ _ _)))
end
end Go.Proofs.YtmdfbdfijnmhkaaGreat
