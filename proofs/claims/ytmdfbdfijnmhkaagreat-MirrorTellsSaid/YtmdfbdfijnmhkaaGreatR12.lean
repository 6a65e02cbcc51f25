import Derived.Test.YtmdfbdfijnmhkaaGreatR11
namespace Go.Proofs.YtmdfbdfijnmhkaaGreat
set_option linter.unusedVariables false
set_option linter.unusedSimpArgs false
open Go.RowKit Hp
attribute [local irreducible] Go.Calls Go.wpList
set_option maxRecDepth 100000
set_option maxHeartbeats 4000000
instance rZS : TyZ Tryz.prog 144 (List.replicate 256 (.int .u8 0)) := ⟨by kernel_rfl⟩
instance rZW : TyZ Tryz.prog 149 (.int .i64 0 :: .int .i64 0 :: List.replicate 256 (.int .u8 0)) := ⟨by kernel_rfl⟩
theorem tells_any {w : World} {ga : Nat} {x : GA} {a : AR} (h : ArrAll w ga x a) (ok : a.Ok) (hll : a.loose.length < 1000000) (k p : Nat) (hd : a.inS (k : Int) (p : Int) = true) :
    Calls Tryz.prog 50 #[.pointer (some ⟨ga, 0, none⟩), .int .i64 (k : Int), .int .i64 (p : Int)] w fun e w' => ∃ u, e = .returned u ∧ St w [] w' [.row u 5 1 256 (bytesV (a.tells (k : Int) (p : Int)))] := by
  have hst0 := St.refl w
  have hin := inS_inD hd
  have hdg := devs_get hin
  have hf := ok.fm _ (List.mem_of_getElem? hdg)
  have hp := inS_pl hd
  have hlt : k < a.devs.length := by have := (inD_dev hin).2; omega
  have hlp : p < (a.dv (k : Int)).firm.length := by rw [hf.1]; omega
  have H0 := hid h.c0
  have H1 := hid h.c1
  have HF := hid (show w.cell? ⟨x.gd, k * 5, none⟩ = some (.slice (some ⟨(a.dv (k : Int)).g, 0, none⟩) (a.dv (k : Int)).firm.length (a.dv (k : Int)).firm.length) from h.dcell hdg (i := 0) rfl (by decide))
  obtain ⟨s0, hs0⟩ : ∃ s0, (a.dv (k : Int)).firm[p]? = some s0 := ⟨_, List.getElem?_eq_getElem hlp⟩
  have hs256 : s0.length = 256 := hf.2.1 _ (List.mem_of_getElem? hs0)
  have HSR := hid (range_flat (sz := 256) (fun d hd => by rw [length_bytesV]; exact hf.2.1 d hd) hs0 (h.frm _ (List.mem_of_getElem? hdg)))
  have hsg : (a.dv (k : Int)).firm.getD p [] = s0 := by rw [List.getD_eq_getElem?_getD, hs0]; rfl
  have HTL := hid (fun j => tells_len ok hd j)
  have HL := hid h.loo
  have HLW := hid ok.lw
  obtain ⟨T, hT⟩ : ∃ T : Nat → List UInt8, T = fun j => (a.loose.take j).foldl (pickW k p) ((a.dv (k : Int)).firm.getD p []) := ⟨_, rfl⟩
  have HT0 : Hid (T 0 = s0) := hid (by rw [hT]; exact hsg)
  have HTS : Hid (∀ j wj, a.loose[j]? = some wj → T (j + 1) = pickW k p (T j) wj) := hid (fun j wj hj => by
    rw [hT]
    show (a.loose.take (j + 1)).foldl _ _ = _
    rw [List.take_add_one, hj, List.foldl_append]
    rfl)
  have HTE : Hid (T a.loose.length = a.tells (k : Int) (p : Int)) := hid (by rw [hT]; show (a.loose.take a.loose.length).foldl _ _ = _; rw [List.take_length]; rfl)
  have HTL2 : Hid (∀ j, (T j).length = 256) := hid (fun j => by rw [hT]; exact HTL.out j)
  obtain ⟨R, hR⟩ : ∃ R, R = a.tells (k : Int) (p : Int) := ⟨_, rfl⟩
  rw [← hR] at HTE
  rw [← hR]
  have HS256 := hid (show (bytesV s0).length = 256 by rw [length_bytesV, hs256])
  have hnl : a.loose.length < 1000000 := hll
  obtain ⟨nl, hnl2⟩ : ∃ nl, nl = a.loose.length := ⟨_, rfl⟩
  have HNL := hid hnl2
  rw [← hnl2] at HTE hnl HL
  clear hd hin hdg hf hp h ok hs0 hs256 hsg HTL hT hR hnl2 hll
  obtain ⟨lao, lc, hlv⟩ : ∃ ao c, x.lv = .slice ao nl c := by
    rcases HL.out.casesF with ⟨e, e2, _⟩ | ⟨A, c, e, _⟩
    · exact ⟨none, 0, by rw [e, e2]⟩
    · exact ⟨some A, c, e⟩
  rw [hlv] at H1 HL
  clear hlv
  go_enter Tryz.func50, Tryz.ntmps50
  go_wp2_with (first | go_big_skip | go_big_guard | (refine wl_loadE rfl rfl rfl ?_; first | refine ⟨_, Loads.old hst0 H0.out, ?_⟩ | refine ⟨_, Loads.old hst0 HF.out, ?_⟩ | refine ⟨_, Loads.oldA (cs := bytesV s0) hst0 HS256.out HSR.out, ?_⟩ | refine ⟨_, Loads.old hst H1.out, ?_⟩) | (refine wl_index (k := k) rfl rfl rfl rfl hlt ?_) | (refine wl_index (k := p) rfl rfl rfl rfl hlp ?_) | (refine wl_alloc hst0 rfl rfl ?_; intro g7 _ hst1; clear hst0) | (refine wl_storeA (vs := bytesV s0) [] hst1 rfl rfl rfl rfl HS256.out (ones_bytesV _) List.length_replicate ?_; intro w2 hst; clear hst1))
  go_loopw [26] (fun i wr => ∃ j : Nat, j ≤ nl ∧ i = .int .i64 (j : Int) ∧ St w [] wr [.blk g7 144 (bytesV (T j))]) (fun i _ => nl - (intOf i).toNat)
  case atStart => exact ⟨0, Nat.zero_le _, rfl, by rw [HT0.out]; exact hst⟩
  case round =>
    clear hst
    obtain ⟨j, hj, rfl, hst⟩ := hrel
    by_cases hlj : j < nl
    · have d1 : decide ((j : Int) < (nl : Int)) = true := decide_eq_true (by omega)
      have z1 : IntKind.i64.wrap ((j : Int) + 1) = (j : Int) + 1 := IntWalk.i64_in _ (by omega)
      obtain ⟨wj, hwj⟩ : ∃ wj, a.loose[j]? = some wj := ⟨_, List.getElem?_eq_getElem (by rw [← HNL.out]; exact hlj)⟩
      have hw := HLW.out wj (List.mem_of_getElem? hwj)
      obtain ⟨lb, lo, rfl, hlr⟩ := Rd.at HL.out hlj
      have HWR := hid (range_flat (sz := 258) (f := LW.cells) (fun d hd => LW.cells_len (HLW.out d hd).2.2) hwj hlr)
      have HW258 := hid (LW.cells_len hw.2.2)
      have HN := hid (HTS.out j wj hwj)
      have HB256 := hid (show (bytesV wj.b).length = 256 by rw [length_bytesV]; exact hw.2.2)
      have HTJ := hid (show (bytesV (T j)).length = 256 by rw [length_bytesV]; exact HTL2.out j)
      clear hwj hw hlr
      by_cases k1 : wj.dev = k
      · by_cases k2 : wj.pl = p
        · have d2 : ((wj.dev : Int) == (k : Int)) = true := by simp [k1]
          have d3 : ((wj.pl : Int) == (p : Int)) = true := by simp [k2]
          have KK := hid (And.intro k1 k2)
          clear k1 k2
          go_wp2_with (first | go_big_skip | go_big_guard | (refine wl_index (k := j) rfl rfl rfl rfl hlj ?_) | (refine wl_loadE rfl rfl rfl ?_; first | refine ⟨_, Loads.oldA (cs := wj.cells) hst HW258.out HWR.out, ?_⟩ | refine ⟨_, Loads.at [] hst3 rfl, ?_⟩ | refine ⟨_, Loads.atA (bytesV wj.b) [] hst3 HB256.out (by show (bytesV wj.b).take _ = _; exact List.take_length), ?_⟩) | (refine wl_alloc (T := 149) hst rfl rfl ?_; intro g9 _ hst2; clear hst) | (refine wl_storeA (T := 149) (vs := wj.cells) [] hst2 rfl rfl rfl rfl HW258.out (ones_LW _) (by rw [List.length_cons, List.length_cons, List.length_replicate]) ?_; intro w4 hst3; clear hst2) | (refine wl_storeA (T := 144) (vs := bytesV wj.b) [_] hst3 rfl rfl rfl rfl HB256.out (ones_bytesV _) HTJ.out ?_; intro w5 hst4; clear hst3))
          go_roundw
          case rel =>
            refine ⟨j + 1, by omega, rfl, ?_⟩
            rw [HN.out]
            unfold pickW
            rw [if_pos KK.out]
            exact St.sub hst4 (.cons _ (List.Sublist.refl _))
          case measure => simp [intOf]; omega
        · have d2 : ((wj.dev : Int) == (k : Int)) = true := by simp [k1]
          have d3 : ((wj.pl : Int) == (p : Int)) = false := by simp; omega
          have KK := hid (fun h : wj.dev = k ∧ wj.pl = p => k2 h.2)
          clear k1 k2
          go_wp2_with (first | go_big_skip | go_big_guard | (refine wl_index (k := j) rfl rfl rfl rfl hlj ?_) | (refine wl_loadE rfl rfl rfl ?_; first | refine ⟨_, Loads.oldA (cs := wj.cells) hst HW258.out HWR.out, ?_⟩ | refine ⟨_, Loads.at [] hst3 rfl, ?_⟩ | refine ⟨_, Loads.atA (bytesV wj.b) [] hst3 HB256.out (by show (bytesV wj.b).take _ = _; exact List.take_length), ?_⟩) | (refine wl_alloc (T := 149) hst rfl rfl ?_; intro g9 _ hst2; clear hst) | (refine wl_storeA (T := 149) (vs := wj.cells) [] hst2 rfl rfl rfl rfl HW258.out (ones_LW _) (by rw [List.length_cons, List.length_cons, List.length_replicate]) ?_; intro w4 hst3; clear hst2) | (refine wl_storeA (T := 144) (vs := bytesV wj.b) [_] hst3 rfl rfl rfl rfl HB256.out (ones_bytesV _) HTJ.out ?_; intro w5 hst4; clear hst3))
          go_roundw
          case rel =>
            refine ⟨j + 1, by omega, rfl, ?_⟩
            rw [HN.out]
            unfold pickW
            rw [if_neg KK.out]
            exact St.sub hst3 (.cons _ (List.Sublist.refl _))
          case measure => simp [intOf]; omega
      · have d2 : ((wj.dev : Int) == (k : Int)) = false := by simp; omega
        have KK := hid (fun h : wj.dev = k ∧ wj.pl = p => k1 h.1)
        clear k1
        go_wp2_with (first | go_big_skip | go_big_guard | (refine wl_index (k := j) rfl rfl rfl rfl hlj ?_) | (refine wl_loadE rfl rfl rfl ?_; first | refine ⟨_, Loads.oldA (cs := wj.cells) hst HW258.out HWR.out, ?_⟩ | refine ⟨_, Loads.at [] hst3 rfl, ?_⟩ | refine ⟨_, Loads.atA (bytesV wj.b) [] hst3 HB256.out (by show (bytesV wj.b).take _ = _; exact List.take_length), ?_⟩) | (refine wl_alloc (T := 149) hst rfl rfl ?_; intro g9 _ hst2; clear hst) | (refine wl_storeA (T := 149) (vs := wj.cells) [] hst2 rfl rfl rfl rfl HW258.out (ones_LW _) (by rw [List.length_cons, List.length_cons, List.length_replicate]) ?_; intro w4 hst3; clear hst2) | (refine wl_storeA (T := 144) (vs := bytesV wj.b) [_] hst3 rfl rfl rfl rfl HB256.out (ones_bytesV _) HTJ.out ?_; intro w5 hst4; clear hst3))
        go_roundw
        case rel =>
          refine ⟨j + 1, by omega, rfl, ?_⟩
          rw [HN.out]
          unfold pickW
          rw [if_neg KK.out]
          exact St.sub hst3 (.cons _ (List.Sublist.refl _))
        case measure => simp [intOf]; omega
    · have d1 : decide ((j : Int) < (nl : Int)) = false := decide_eq_false (by omega)
      have HE := hid (show T j = R by rw [← HTE.out]; congr 1; omega)
      have HJ := hid (show (bytesV (T j)).length = 256 by rw [length_bytesV]; exact HTL2.out j)
      have hst5 := St.nilR 5 1 hst
      clear hst
      go_wp2_with (first | go_big_skip | go_big_guard | (apply wl_appX (m := 256) (ys := bytesV (T j)) [] hst5; rfl; rfl; exact rfl; exact rfl; infer_instance; infer_instance; infer_instance; exact Rd.blk (n := 256) hst5 (.tail _ (.head _)) (Nat.le_refl _) (by decide) (by rw [HJ.out]) (by rw [List.drop_zero, List.take_length]); exact ones_bytesV _; exact ⟨by decide, by decide, by decide⟩; intro v6 w6 hst6 _; clear hst5))
      go_ret
      refine ⟨v6, rfl, ?_⟩
      rw [← HE.out]
      have := St.sub hst6 (.cons_cons _ (List.nil_sublist _))
      rw [List.nil_append] at this
      exact this
end Go.Proofs.YtmdfbdfijnmhkaaGreat
