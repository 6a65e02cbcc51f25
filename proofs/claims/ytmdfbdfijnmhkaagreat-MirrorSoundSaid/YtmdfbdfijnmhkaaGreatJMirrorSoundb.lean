import Derived.Test.YtmdfbdfijnmhkaaGreatJMirrorSounda
import Derived.Test.YtmdfbdfijnmhkaaGreatSepX
import Derived.Test.YtmdfbdfijnmhkaaGreatPtr
import Derived.Test.YtmdfbdfijnmhkaaGreatSepF
import Derived.Test.YtmdfbdfijnmhkaaGreatProg
import Derived.Test.YtmdfbdfijnmhkaaGreatSepY
import Derived.Deep.RegionHeld3
namespace Go.Proofs.YtmdfbdfijnmhkaaGreat
set_option linter.unusedVariables false
set_option linter.unusedSimpArgs false
open Go.RowKit Hp
set_option maxRecDepth 100000
theorem mid_in {w0 w : World} {M : List Nat} {P Bs R : List HA} {ga : Nat} {x : GA} {a : AR} (h : St w0 M w (P ++ (Bs ++ (arP ga x a ++ R)))) : St w (arF ga x a) w (arP ga x a) :=
  (St.sub h (((List.sublist_append_left _ _).trans (List.sublist_append_right _ _)).trans (List.sublist_append_right _ _))).selfF
theorem mid_outp {w0 w w' : World} {M : List Nat} {P Bs R Q : List HA} {ga : Nat} {x x' : GA} {a a' : AR} (h : St w0 M w (P ++ (Bs ++ (arP ga x a ++ R)))) (h4 : St w (arF ga x a) w' (Q ++ arP ga x' a')) : St w0 M w' (Q ++ (P ++ (Bs ++ (arP ga x' a' ++ R)))) := by
  have h1 : St w0 M w (arP ga x a ++ (P ++ (Bs ++ R))) := by
    refine St.perm h ?_
    rw [← List.append_assoc P Bs, ← List.append_assoc P Bs]
    exact List.perm_append_comm_assoc (P ++ Bs) (arP ga x a) R
  have h2 := St.callF (arP ga x a) h1 h4
  refine St.perm h2 ?_
  rw [List.append_assoc]
  refine List.Perm.append_left Q ?_
  rw [← List.append_assoc P Bs, ← List.append_assoc P Bs]
  exact List.perm_append_comm_assoc (arP ga x' a') (P ++ Bs) R
theorem mid_out {w0 w w' : World} {M : List Nat} {P Bs R : List HA} {ga : Nat} {x x' : GA} {a a' : AR} (h : St w0 M w (P ++ (Bs ++ (arP ga x a ++ R)))) (h4 : St w (arF ga x a) w' (arP ga x' a')) : St w0 M w' (P ++ (Bs ++ (arP ga x' a' ++ R))) := mid_outp (Q := []) h h4
structure Next (a a' : AR) : Prop where
  ok : a'.Ok
  st : Stays a a'
theorem Next.refl {a : AR} (ok : a.Ok) : Next a a := ⟨ok, Stays.refl a⟩
end Go.Proofs.YtmdfbdfijnmhkaaGreat
namespace Go.Proofs.YtmdfbdfijnmhkaaGreat
set_option linter.unusedVariables false
set_option linter.unusedSimpArgs false
open Go.RowKit Hp
attribute [local irreducible] Go.Calls Go.wpList
set_option maxRecDepth 100000
set_option maxHeartbeats 4000000
theorem tells_anyP {w : World} {ga : Nat} {x : GA} {a : AR} (h : ArrAll w ga x a) (ok : a.Ok) (hll : a.loose.length < 1000000) (k p : Nat) (hd : a.inS (k : Int) (p : Int) = true) :
    Calls Tryz.prog 50 #[.pointer (some ⟨ga, 0, none⟩), .int .i64 (k : Int), .int .i64 (p : Int)] w fun e w' => ∃ u, e = .returned u ∧ St w [] w' [.rowP isB u 5 1 256 (bytesV (a.tells (k : Int) (p : Int)))] := by
  have hst0 := St.refl w
  have hin := inS_inD hd
  have hdg := devs_get hin
  have hf := ok.fm _ (List.mem_of_getElem? hdg)
  have hp := inS_pl hd
  have hlt : k < a.devs.length := by have := (inD_dev hin).2; omega
  have hlp : p < (a.dv (k : Int)).firm.length := by rw [hf.1]; omega
  have H0 := hid h.c0
  have H1 := hid h.c1
  have HF := hid (show w.cell? ⟨x.gd, k * 5, none⟩ = some (.slice (some ⟨(a.dv (k : Int)).g, 0, none⟩) (a.dv (k : Int)).firm.length (a.dv (k : Int)).firm.length) from h.dcell hdg (i := 0) rfl (by decide))
  obtain ⟨s0, hs0⟩ : ∃ s0, (a.dv (k : Int)).firm[p]? = some s0 := ⟨_, List.getElem?_eq_getElem hlp⟩
  have hs256 : s0.length = 256 := hf.2.1 _ (List.mem_of_getElem? hs0)
  have HSR := hid (range_flat (sz := 256) (fun d hd => by rw [length_bytesV]; exact hf.2.1 d hd) hs0 (h.frm _ (List.mem_of_getElem? hdg)))
  have hsg : (a.dv (k : Int)).firm.getD p [] = s0 := by rw [List.getD_eq_getElem?_getD, hs0]; rfl
  have HTL := hid (fun j => tells_len ok hd j)
  have HL := hid h.loo
  have HLW := hid ok.lw
  obtain ⟨T, hT⟩ : ∃ T : Nat → List UInt8, T = fun j => (a.loose.take j).foldl (pickW k p) ((a.dv (k : Int)).firm.getD p []) := ⟨_, rfl⟩
  have HT0 : Hid (T 0 = s0) := hid (by rw [hT]; exact hsg)
  have HTS : Hid (∀ j wj, a.loose[j]? = some wj → T (j + 1) = pickW k p (T j) wj) := hid (fun j wj hj => by
    rw [hT]
    show (a.loose.take (j + 1)).foldl _ _ = _
    rw [List.take_add_one, hj, List.foldl_append]
    rfl)
  have HTE : Hid (T a.loose.length = a.tells (k : Int) (p : Int)) := hid (by rw [hT]; show (a.loose.take a.loose.length).foldl _ _ = _; rw [List.take_length]; rfl)
  have HTL2 : Hid (∀ j, (T j).length = 256) := hid (fun j => by rw [hT]; exact HTL.out j)
  obtain ⟨R, hR⟩ : ∃ R, R = a.tells (k : Int) (p : Int) := ⟨_, rfl⟩
  rw [← hR] at HTE
  rw [← hR]
  have HS256 := hid (show (bytesV s0).length = 256 by rw [length_bytesV, hs256])
  have hnl : a.loose.length < 1000000 := hll
  obtain ⟨nl, hnl2⟩ : ∃ nl, nl = a.loose.length := ⟨_, rfl⟩
  have HNL := hid hnl2
  rw [← hnl2] at HTE hnl HL
  clear hd hin hdg hf hp h ok hs0 hs256 hsg HTL hT hR hnl2 hll
  obtain ⟨lao, lc, hlv⟩ : ∃ ao c, x.lv = .slice ao nl c := by
    rcases HL.out.casesF with ⟨e, e2, _⟩ | ⟨A, c, e, _⟩
    · exact ⟨none, 0, by rw [e, e2]⟩
    · exact ⟨some A, c, e⟩
  rw [hlv] at H1 HL
  clear hlv
  go_enter Tryz.func50, Tryz.ntmps50
  go_wp2_with (first | go_big_skip | go_big_guard | (refine wl_loadE rfl rfl rfl ?_; first | refine ⟨_, Loads.old hst0 H0.out, ?_⟩ | refine ⟨_, Loads.old hst0 HF.out, ?_⟩ | refine ⟨_, Loads.oldA (cs := bytesV s0) hst0 HS256.out HSR.out, ?_⟩ | refine ⟨_, Loads.old hst H1.out, ?_⟩) | (refine wl_index (k := k) rfl rfl rfl rfl hlt ?_) | (refine wl_index (k := p) rfl rfl rfl rfl hlp ?_) | (refine wl_alloc hst0 rfl rfl ?_; intro g7 _ hst1; clear hst0) | (refine wl_storeA (vs := bytesV s0) [] hst1 rfl rfl rfl rfl HS256.out (ones_bytesV _) List.length_replicate ?_; intro w2 hst; clear hst1))
  go_loopw [26] (fun i wr => ∃ j : Nat, j ≤ nl ∧ i = .int .i64 (j : Int) ∧ St w [] wr [.blk g7 144 (bytesV (T j))]) (fun i _ => nl - (intOf i).toNat)
  case atStart => exact ⟨0, Nat.zero_le _, rfl, by rw [HT0.out]; exact hst⟩
  case round =>
    clear hst
    obtain ⟨j, hj, rfl, hst⟩ := hrel
    by_cases hlj : j < nl
    · have d1 : decide ((j : Int) < (nl : Int)) = true := decide_eq_true (by omega)
      have z1 : IntKind.i64.wrap ((j : Int) + 1) = (j : Int) + 1 := IntWalk.i64_in _ (by omega)
      obtain ⟨wj, hwj⟩ : ∃ wj, a.loose[j]? = some wj := ⟨_, List.getElem?_eq_getElem (by rw [← HNL.out]; exact hlj)⟩
      have hw := HLW.out wj (List.mem_of_getElem? hwj)
      obtain ⟨lb, lo, rfl, hlr⟩ := Rd.at HL.out hlj
      have HWR := hid (range_flat (sz := 258) (f := LW.cells) (fun d hd => LW.cells_len (HLW.out d hd).2.2) hwj hlr)
      have HW258 := hid (LW.cells_len hw.2.2)
      have HN := hid (HTS.out j wj hwj)
      have HB256 := hid (show (bytesV wj.b).length = 256 by rw [length_bytesV]; exact hw.2.2)
      have HTJ := hid (show (bytesV (T j)).length = 256 by rw [length_bytesV]; exact HTL2.out j)
      clear hwj hw hlr
      by_cases k1 : wj.dev = k
      · by_cases k2 : wj.pl = p
        · have d2 : ((wj.dev : Int) == (k : Int)) = true := by simp [k1]
          have d3 : ((wj.pl : Int) == (p : Int)) = true := by simp [k2]
          have KK := hid (And.intro k1 k2)
          clear k1 k2
          go_wp2_with (first | go_big_skip | go_big_guard | (refine wl_index (k := j) rfl rfl rfl rfl hlj ?_) | (refine wl_loadE rfl rfl rfl ?_; first | refine ⟨_, Loads.oldA (cs := wj.cells) hst HW258.out HWR.out, ?_⟩ | refine ⟨_, Loads.at [] hst3 rfl, ?_⟩ | refine ⟨_, Loads.atA (bytesV wj.b) [] hst3 HB256.out (by show (bytesV wj.b).take _ = _; exact List.take_length), ?_⟩) | (refine wl_alloc (T := 149) hst rfl rfl ?_; intro g9 _ hst2; clear hst) | (refine wl_storeA (T := 149) (vs := wj.cells) [] hst2 rfl rfl rfl rfl HW258.out (ones_LW _) (by rw [List.length_cons, List.length_cons, List.length_replicate]) ?_; intro w4 hst3; clear hst2) | (refine wl_storeA (T := 144) (vs := bytesV wj.b) [_] hst3 rfl rfl rfl rfl HB256.out (ones_bytesV _) HTJ.out ?_; intro w5 hst4; clear hst3))
          go_roundw
          case rel =>
            refine ⟨j + 1, by omega, rfl, ?_⟩
            rw [HN.out]
            unfold pickW
            rw [if_pos KK.out]
            exact St.sub hst4 (.cons _ (List.Sublist.refl _))
          case measure => simp [intOf]; omega
        · have d2 : ((wj.dev : Int) == (k : Int)) = true := by simp [k1]
          have d3 : ((wj.pl : Int) == (p : Int)) = false := by simp; omega
          have KK := hid (fun h : wj.dev = k ∧ wj.pl = p => k2 h.2)
          clear k1 k2
          go_wp2_with (first | go_big_skip | go_big_guard | (refine wl_index (k := j) rfl rfl rfl rfl hlj ?_) | (refine wl_loadE rfl rfl rfl ?_; first | refine ⟨_, Loads.oldA (cs := wj.cells) hst HW258.out HWR.out, ?_⟩ | refine ⟨_, Loads.at [] hst3 rfl, ?_⟩ | refine ⟨_, Loads.atA (bytesV wj.b) [] hst3 HB256.out (by show (bytesV wj.b).take _ = _; exact List.take_length), ?_⟩) | (refine wl_alloc (T := 149) hst rfl rfl ?_; intro g9 _ hst2; clear hst) | (refine wl_storeA (T := 149) (vs := wj.cells) [] hst2 rfl rfl rfl rfl HW258.out (ones_LW _) (by rw [List.length_cons, List.length_cons, List.length_replicate]) ?_; intro w4 hst3; clear hst2) | (refine wl_storeA (T := 144) (vs := bytesV wj.b) [_] hst3 rfl rfl rfl rfl HB256.out (ones_bytesV _) HTJ.out ?_; intro w5 hst4; clear hst3))
          go_roundw
          case rel =>
            refine ⟨j + 1, by omega, rfl, ?_⟩
            rw [HN.out]
            unfold pickW
            rw [if_neg KK.out]
            exact St.sub hst3 (.cons _ (List.Sublist.refl _))
          case measure => simp [intOf]; omega
      · have d2 : ((wj.dev : Int) == (k : Int)) = false := by simp; omega
        have KK := hid (fun h : wj.dev = k ∧ wj.pl = p => k1 h.1)
        clear k1
        go_wp2_with (first | go_big_skip | go_big_guard | (refine wl_index (k := j) rfl rfl rfl rfl hlj ?_) | (refine wl_loadE rfl rfl rfl ?_; first | refine ⟨_, Loads.oldA (cs := wj.cells) hst HW258.out HWR.out, ?_⟩ | refine ⟨_, Loads.at [] hst3 rfl, ?_⟩ | refine ⟨_, Loads.atA (bytesV wj.b) [] hst3 HB256.out (by show (bytesV wj.b).take _ = _; exact List.take_length), ?_⟩) | (refine wl_alloc (T := 149) hst rfl rfl ?_; intro g9 _ hst2; clear hst) | (refine wl_storeA (T := 149) (vs := wj.cells) [] hst2 rfl rfl rfl rfl HW258.out (ones_LW _) (by rw [List.length_cons, List.length_cons, List.length_replicate]) ?_; intro w4 hst3; clear hst2) | (refine wl_storeA (T := 144) (vs := bytesV wj.b) [_] hst3 rfl rfl rfl rfl HB256.out (ones_bytesV _) HTJ.out ?_; intro w5 hst4; clear hst3))
        go_roundw
        case rel =>
          refine ⟨j + 1, by omega, rfl, ?_⟩
          rw [HN.out]
          unfold pickW
          rw [if_neg KK.out]
          exact St.sub hst3 (.cons _ (List.Sublist.refl _))
        case measure => simp [intOf]; omega
    · have d1 : decide ((j : Int) < (nl : Int)) = false := decide_eq_false (by omega)
      have HE := hid (show T j = R by rw [← HTE.out]; congr 1; omega)
      have HJ := hid (show (bytesV (T j)).length = 256 by rw [length_bytesV]; exact HTL2.out j)
      have hst5 := St.nilPQ isB 5 1 hst
      clear hst
      go_wp2_with (first | go_big_skip | go_big_guard | (apply wl_appP (p := isB) (m := 256) (ys := bytesV (T j)) [] hst5; rfl; rfl; exact rfl; exact rfl; infer_instance; infer_instance; infer_instance; infer_instance; exact Rd.blk (n := 256) hst5 (.tail _ (.head _)) (Nat.le_refl _) (by decide) (by rw [HJ.out]) (by rw [List.drop_zero, List.take_length]); exact ones_bytesV _; rfl; exact isB_bytes _; exact ⟨by decide, by decide, by decide⟩; intro v6 w6 hst6 _; clear hst5))
      go_ret
      refine ⟨v6, rfl, ?_⟩
      rw [← HE.out]
      have := St.sub hst6 (.cons_cons _ (List.nil_sublist _))
      rw [List.nil_append] at this
      exact this
section
attribute [local go_sem ↓] loadedPA loadedIn
theorem read_badP {w : World} {ga : Nat} {x : GA} {a : AR} (hS : St w (arF ga x a) w (arP ga x a)) (ok : a.Ok) (hll : a.loose.length < 1000000) (dev pl : Int) (h1 : firstE (readL a dev pl) ≠ 0) :
    Calls Tryz.prog 36 #[.pointer (some ⟨ga, 0, none⟩), .int .i64 dev, .int .i64 pl] w fun e w' => ∃ u, e = .returned (.tuple #[u, .int .i64 (a.readE dev pl)]) ∧ St w (arF ga x a) w' (.rowP isB u 5 1 (a.readB dev pl).length (bytesV (a.readB dev pl)) :: arP ga x (a.read dev pl)) := by
  have hb := read_bad ok.d0 h1
  have hbb : a.readB dev pl = [] := by unfold AR.readB; rw [if_neg (by rw [hb.1]; exact h1)]
  rw [hbb, hb.1, hb.2]
  have HE := hid (firstE_isE (readL_isE a dev pl) h1)
  have H1 := hid h1
  have OK := hid ok
  have hst0 := hS
  have hmf := rmf
  clear hb h1 ok hS hbb
  go_enter Tryz.func36, Tryz.ntmps36
  go_wp2_with (first | go_big_skip | go_big_guard | (refine wl_box hst0 rfl rfl rfl ?_; intro g3 w1 hst1; clear hst0) | (refine wl_box hst1 rfl rfl rfl ?_; intro g4 w2 hst2; clear hst1))
  have hX := hst2.drew
  clear hst2
  refine wp_region_held_drew (S := (fun w' => (loadVarH 3 ⟨g4, 0, none⟩).run Tryz.prog w' = .ok (.int .i64 dev) w' ∧ (loadVarH 23 ⟨g3, 0, none⟩).run Tryz.prog w' = .ok (.pointer (some ⟨ga, 0, none⟩)) w')) (by kernel_rfl) (by exact ⟨ldS [] hX (rfl), ldS [_] hX (rfl)⟩) (fun hHeld => ?_)
  refine wpAnyH_take (i := 0) (oi := ⟨some 9, _, _, _, _, _⟩) (v := ?_) rfl (by kernel_rfl) (by kernel_rfl) (by kernel_rfl) (fun _ _ _ h => h) (Or.inl ⟨by rfl, ?_⟩) (by assumption) ?_
  rotate_left
  · intro w hSw; (try dsimp only at hSw); go_simp; try with_reducible rfl
  (try simp only [Act.put, List.setIfInBounds_toArray, List.set_cons_zero, List.set_cons_succ])
  refine wpAnyH_take (i := 1) (oi := ⟨some 10, _, _, _, _, _⟩) (v := ?_) rfl (by kernel_rfl) (by kernel_rfl) (by kernel_rfl) (fun _ _ _ h => h) (Or.inl ⟨by rfl, ?_⟩) (by assumption) ?_
  rotate_left
  · intro w hSw; (try dsimp only at hSw); go_simp; try with_reducible rfl
  (try simp only [Act.put, List.setIfInBounds_toArray, List.set_cons_zero, List.set_cons_succ])
  refine wpAnyH_take (i := 3) (oi := ⟨some 12, _, _, _, _, _⟩) (v := ?_) rfl (by kernel_rfl) (by kernel_rfl) (by kernel_rfl) (fun _ _ _ h => h) (Or.inl ⟨by rfl, ?_⟩) (by assumption) ?_
  rotate_left
  · intro w hSw; (try dsimp only at hSw); go_simp; try with_reducible rfl
  (try simp only [Act.put, List.setIfInBounds_toArray, List.set_cons_zero, List.set_cons_succ])
  refine wpAnyH_take (i := 5) (oi := ⟨some 14, _, _, _, _, _⟩) (v := ?_) rfl (by kernel_rfl) (by kernel_rfl) (by kernel_rfl) (fun _ _ _ h => h) (Or.inl ⟨by rfl, ?_⟩) (by assumption) ?_
  rotate_left
  · intro w hSw; (try dsimp only at hSw); go_simp; try with_reducible rfl
  (try simp only [Act.put, List.setIfInBounds_toArray, List.set_cons_zero, List.set_cons_succ])
  refine wpAnyH_take (i := 6) (oi := ⟨some 15, _, _, _, _, _⟩) (v := ?_) rfl (by kernel_rfl) (by kernel_rfl) (by kernel_rfl) (fun _ _ _ h => h) (Or.inl ⟨by rfl, ?_⟩) (by assumption) ?_
  rotate_left
  · intro w hSw; (try dsimp only at hSw); go_simp; try with_reducible rfl
  (try simp only [Act.put, List.setIfInBounds_toArray, List.set_cons_zero, List.set_cons_succ])
  refine wpAnyH_take (i := 7) (oi := ⟨some 16, _, _, _, _, _⟩) (v := ?_) rfl (by kernel_rfl) (by kernel_rfl) (by kernel_rfl) (fun _ _ _ h => h) (Or.inl ⟨by rfl, ?_⟩) (by assumption) ?_
  rotate_left
  · intro w hSw; (try dsimp only at hSw); go_simp; try with_reducible rfl
  (try simp only [Act.put, List.setIfInBounds_toArray, List.set_cons_zero, List.set_cons_succ])
  refine wpAnyH_take (i := 9) (oi := ⟨some 18, _, _, _, _, _⟩) (v := ?_) rfl (by kernel_rfl) (by kernel_rfl) (by kernel_rfl) (fun _ _ _ h => h) (Or.inl ⟨by rfl, ?_⟩) (by assumption) ?_
  rotate_left
  · intro w hSw; (try dsimp only at hSw); go_simp; try with_reducible rfl
  (try simp only [Act.put, List.setIfInBounds_toArray, List.set_cons_zero, List.set_cons_succ])
  refine wpAnyH_take (i := 10) (oi := ⟨some 19, _, _, _, _, _⟩) (v := ?_) rfl (by kernel_rfl) (by kernel_rfl) (by kernel_rfl) (fun _ _ _ h => h) (Or.inl ⟨by rfl, ?_⟩) (by assumption) ?_
  rotate_left
  · intro w hSw; (try dsimp only at hSw); go_simp; try with_reducible rfl
  (try simp only [Act.put, List.setIfInBounds_toArray, List.set_cons_zero, List.set_cons_succ])
  refine wpAnyH_take (i := 12) (oi := ⟨some 21, _, _, _, _, _⟩) (v := ?_) rfl (by kernel_rfl) (by kernel_rfl) (by kernel_rfl) (fun _ _ _ h => h) (Or.inl ⟨by rfl, ?_⟩) (by assumption) ?_
  rotate_left
  · intro w hSw; (try dsimp only at hSw); go_simp; try with_reducible rfl
  (try simp only [Act.put, List.setIfInBounds_toArray, List.set_cons_zero, List.set_cons_succ])
  refine wpAnyH_take (i := 2) (oi := ⟨some 11, _, _, _, _, _⟩) (v := ?_) rfl (by kernel_rfl) (by kernel_rfl) (by kernel_rfl) (fun _ _ _ h => h) (Or.inl ⟨by rfl, ?_⟩) (by assumption) ?_
  rotate_left
  · intro w hSw; (try dsimp only at hSw); go_simp; try with_reducible rfl
  (try simp only [Act.put, List.setIfInBounds_toArray, List.set_cons_zero, List.set_cons_succ])
  refine wpAnyH_take (i := 4) (oi := ⟨some 13, _, _, _, _, _⟩) (v := ?_) rfl (by kernel_rfl) (by kernel_rfl) (by kernel_rfl) (fun _ _ _ h => h) (Or.inl ⟨by rfl, ?_⟩) (by assumption) ?_
  rotate_left
  · intro w hSw; (try dsimp only at hSw); go_simp; try with_reducible rfl
  (try simp only [Act.put, List.setIfInBounds_toArray, List.set_cons_zero, List.set_cons_succ])
  refine wpAnyH_ready (rs := [8]) (by kernel_rfl) (by simp) ?_
  refine (AllReadyH.cons (o := ⟨some 17, _, _, _, _, _⟩) rfl (fun K hK => ?_) AllReadyH.nil)
  rw [if_pos (by rfl)]
  go_simp
  go_at_call 87
  refine (isSector_any ga dev pl _).mono ?_
  rintro _ w3 ⟨g0, g1, g2, rfl, h4⟩
  have hA1 := St.call hX h4
  clear h4
  refine hK.out _ _ ?_ (fun hHeld => ?_)
  · exact ⟨ldS [_, _, _] hA1 (rfl), ldS [_, _, _, _] hA1 (rfl)⟩
  clear hK K
  (try simp only [Act.put, List.setIfInBounds_toArray, List.set_cons_zero, List.set_cons_succ])
  refine wpAnyH_ready (rs := [11]) (by kernel_rfl) (by simp) ?_
  refine (AllReadyH.cons (o := ⟨some 20, _, _, _, _, _⟩) rfl (fun K hK => ?_) AllReadyH.nil)
  rw [if_pos (by rfl)]
  go_simp
  go_at_call 89
  refine (isHere_any ga dev _).mono ?_
  rintro _ w4 ⟨k0, k1, rfl, h4⟩
  have hA2 := St.call hA1 h4
  clear h4
  refine hK.out _ _ ?_ (fun hHeld => ?_)
  · exact ⟨ldS [_, _, _, _, _] hA2 (rfl), ldS [_, _, _, _, _, _] hA2 (rfl)⟩
  clear hK K
  (try simp only [Act.put, List.setIfInBounds_toArray, List.set_cons_zero, List.set_cons_succ])
  refine wpAnyH_ready (rs := [13]) (by kernel_rfl) (by simp) ?_
  refine (AllReadyH.cons (o := ⟨some 22, _, _, _, _, _⟩) rfl (fun K hK => ?_) AllReadyH.nil)
  rw [if_pos (by rfl)]
  refine ow_of_wl (ops := #[]) (by rfl) ?_
  apply wl_bsX ([methV 46 (ptrV ga), methV 88 (ptrV ga), cloV 138 [ptrV g0, ptrV g1, ptrV g2], cloV 139 [ptrV k0, ptrV k1], cloV 90 [ptrV g3, ptrV g4]]) ([methV 46 (ptrV ga), methV 88 (ptrV ga), cloV 138 [ptrV g0, ptrV g1, ptrV g2], cloV 139 [ptrV k0, ptrV k1], cloV 90 [ptrV g3, ptrV g4]]) hA2
  rfl
  rfl
  exact rfl
  exact rfl
  infer_instance
  infer_instance
  rfl
  rfl
  rfl
  intro gs w5 hA3
  refine q0_nil ?_
  refine hK.out _ _ ?_ (fun hHeld => ?_)
  · exact ⟨ldS [_, _, _, _, _, _] hA3 (rfl), ldS [_, _, _, _, _, _, _] hA3 (rfl)⟩
  clear hK K
  (try simp only [Act.put, List.setIfInBounds_toArray, List.set_cons_zero, List.set_cons_succ])
  refine wpAnyH_ready (rs := [14]) (by kernel_rfl) (by simp) ?_
  refine (AllReadyH.cons (o := ⟨some 23, _, _, _, _, _⟩) rfl (fun K hK => ?_) AllReadyH.nil)
  rw [if_pos (by rfl)]
  go_simp
  (go_at_call 45; have hC := checks_any dev (v := .slice (some ⟨gs, 0, none⟩) 5 5) (n := 5) (fs := [methV 46 (ptrV ga), methV 88 (ptrV ga), cloV 138 [ptrV g0, ptrV g1, ptrV g2], cloV 139 [ptrV k0, ptrV k1]]) (f9 := cloV 90 [ptrV g3, ptrV g4]) (es := readL a dev pl) (e9 := 0) (A := (fun w' => St w (arF ga x a) w' (([HA.blk gs 92 ([methV 46 (ptrV ga), methV 88 (ptrV ga), cloV 138 [ptrV g0, ptrV g1, ptrV g2], cloV 139 [ptrV k0, ptrV k1], cloV 90 [ptrV g3, ptrV g4]]), .blk k1 3 [.int .i64 dev], .blk k0 23 [.pointer (some ⟨ga, 0, none⟩)], .blk g2 3 [.int .i64 pl], .blk g1 3 [.int .i64 dev], .blk g0 23 [.pointer (some ⟨ga, 0, none⟩)], .blk g4 3 [.int .i64 dev], .blk g3 23 [.pointer (some ⟨ga, 0, none⟩)]] : List HA) ++ arP ga x a))) (B := (fun w' => St w (arF ga x a) w' (([HA.blk gs 92 ([methV 46 (ptrV ga), methV 88 (ptrV ga), cloV 138 [ptrV g0, ptrV g1, ptrV g2], cloV 139 [ptrV k0, ptrV k1], cloV 90 [ptrV g3, ptrV g4]]), .blk k1 3 [.int .i64 dev], .blk k0 23 [.pointer (some ⟨ga, 0, none⟩)], .blk g2 3 [.int .i64 pl], .blk g1 3 [.int .i64 dev], .blk g0 23 [.pointer (some ⟨ga, 0, none⟩)], .blk g4 3 [.int .i64 dev], .blk g3 23 [.pointer (some ⟨ga, 0, none⟩)]] : List HA) ++ arP ga x a))) _ (fun _ h => Rd.blk h (.head _) (Nat.le_refl _) (by decide) rfl rfl) rfl rfl (by decide) (read_probes (fun _ h => ArrAt.of h (fun p hp => List.mem_append_right _ hp) OK.out.d0) keeps_st (fun _ h => St.cell h (off := 0) (.tail _ (.tail _ (.tail _ (.tail _ (.tail _ (.head _)))))) rfl) (fun _ h => St.cell h (off := 0) (.tail _ (.tail _ (.tail _ (.tail _ (.head _))))) rfl) (fun _ h => St.cell h (off := 0) (.tail _ (.tail _ (.tail _ (.head _)))) rfl) (fun _ h => St.cell h (off := 0) (.tail _ (.tail _ (.head _))) rfl) (fun _ h => St.cell h (off := 0) (.tail _ (.head _)) rfl)) (fun hz => absurd (firstE_zero hz) H1.out) hA3; refine hC.mono ?_; rintro _ w5 hh; obtain ⟨rfl, h4⟩ := checks_bad H1.out hh; clear hC hh hA3; have hA4 := h4; clear h4)
  refine hK.out _ _ ?_ (fun hHeld => ?_)
  · exact ⟨ldS [_, _, _, _, _, _] hA4 (rfl), ldS [_, _, _, _, _, _, _] hA4 (rfl)⟩
  clear hK K
  (try simp only [Act.put, List.setIfInBounds_toArray, List.set_cons_zero, List.set_cons_succ])
  refine wpAnyH_take (i := 15) (oi := ⟨some 8, _, _, _, _, _⟩) (v := ?_) rfl (by kernel_rfl) (by kernel_rfl) (by kernel_rfl) (fun _ _ _ h => h) (Or.inl ⟨by rfl, ?_⟩) (by assumption) ?_
  rotate_left
  · intro w hSw; (try dsimp only at hSw); go_simp; try with_reducible rfl
  (try simp only [Act.put, List.setIfInBounds_toArray, List.set_cons_zero, List.set_cons_succ])
  refine wpAnyH_done (by kernel_rfl) ?_ _
  clear hHeld
  obtain ⟨E, hE⟩ : ∃ E, E = firstE (readL a dev pl) := ⟨_, rfl⟩
  have HQ := hid hE
  rw [← hE] at HE H1
  rw [← hE]
  clear hE
  go_wp2_with (first | go_big_skip | go_big_guard | (go_at_call 47; refine (number_isE E dev HE.out H1.out _).mono ?_; rintro _ w6 ⟨rfl, h4⟩; have hst6 := St.call0 hA4 h4; clear h4 hA4))
  go_ret2
  exact ⟨.slice none 0 0, (by rw [HQ.out]; rfl), St.nilPQ isB _ 1 (St.sub hst6 (List.sublist_append_right _ _))⟩
theorem read_failP {w : World} {ga : Nat} {x : GA} {a : AR} (hS : St w (arF ga x a) w (arP ga x a)) (ok : a.Ok) (hll : a.loose.length < 1000000) (k p : Nat) (h1 : firstE (readL a (k : Int) (p : Int)) = 0) (h2 : 0 < (a.dv (k : Int)).fail) :
    Calls Tryz.prog 36 #[.pointer (some ⟨ga, 0, none⟩), .int .i64 (k : Int), .int .i64 (p : Int)] w fun e w' => ∃ u, e = .returned (.tuple #[u, .int .i64 (a.readE (k : Int) (p : Int))]) ∧ St w (arF ga x a) w' (.rowP isB u 5 1 (a.readB (k : Int) (p : Int)).length (bytesV (a.readB (k : Int) (p : Int))) :: arP ga x (a.read (k : Int) (p : Int))) := by
  have hb := read_ok ok.d0 h1
  have hin : a.inD (k : Int) = true := inS_inD hb.1
  have hfm := ok.fm _ (List.mem_of_getElem? (devs_get hin))
  have HPS : Hid (∀ (M : List Nat) (L1 : List HA) (g3 g4 : Nat), HA.blk g3 23 [.pointer (some ⟨ga, 0, none⟩)] ∈ L1 → HA.blk g4 3 [.int .i64 (k : Int)] ∈ L1 →
      Probe (cloV 90 [ptrV g3, ptrV g4]) 13 (fun w' => St w M w' (L1 ++ arP ga x a)) (fun w' => St w M w' (L1 ++ arP ga x (a.failed (k : Int))))) := hid (by
    intro M L1 g3 g4 c0 c1
    have := probe_read (w0 := w) (M := M) (L1 := L1) (ga := ga) (x := x) hin ⟨hfm.2.2.2.1, hfm.2.2.2.2⟩ c0 c1
    unfold AR.failE at this
    rw [if_pos h2] at this
    exact this)
  have hee : a.failE (k : Int) = 13 := by unfold AR.failE; rw [if_pos h2]
  have hbb : a.readB (k : Int) (p : Int) = [] := by unfold AR.readB; rw [hb.2.1, hee]; rfl
  rw [hbb, hb.2.1, hb.2.2, hee]
  have HS := hid hb.1
  have H1 := hid h1
  have OK := hid ok
  have hst0 := hS
  have hmf := rmf
  clear hb hin hfm hee hbb h1 h2 ok hS
  obtain ⟨a9, ha9⟩ : ∃ a9, a9 = a.failed (k : Int) := ⟨_, rfl⟩
  rw [← ha9] at HPS ⊢
  clear ha9
  go_enter Tryz.func36, Tryz.ntmps36
  go_wp2_with (first | go_big_skip | go_big_guard | (refine wl_box hst0 rfl rfl rfl ?_; intro g3 w1 hst1; clear hst0) | (refine wl_box hst1 rfl rfl rfl ?_; intro g4 w2 hst2; clear hst1))
  have hX := hst2.drew
  clear hst2
  refine wp_region_held_drew (S := (fun w' => (loadVarH 3 ⟨g4, 0, none⟩).run Tryz.prog w' = .ok (.int .i64 (k : Int)) w' ∧ (loadVarH 23 ⟨g3, 0, none⟩).run Tryz.prog w' = .ok (.pointer (some ⟨ga, 0, none⟩)) w')) (by kernel_rfl) (by exact ⟨ldS [] hX (rfl), ldS [_] hX (rfl)⟩) (fun hHeld => ?_)
  refine wpAnyH_take (i := 0) (oi := ⟨some 9, _, _, _, _, _⟩) (v := ?_) rfl (by kernel_rfl) (by kernel_rfl) (by kernel_rfl) (fun _ _ _ h => h) (Or.inl ⟨by rfl, ?_⟩) (by assumption) ?_
  rotate_left
  · intro w hSw; (try dsimp only at hSw); go_simp; try with_reducible rfl
  (try simp only [Act.put, List.setIfInBounds_toArray, List.set_cons_zero, List.set_cons_succ])
  refine wpAnyH_take (i := 1) (oi := ⟨some 10, _, _, _, _, _⟩) (v := ?_) rfl (by kernel_rfl) (by kernel_rfl) (by kernel_rfl) (fun _ _ _ h => h) (Or.inl ⟨by rfl, ?_⟩) (by assumption) ?_
  rotate_left
  · intro w hSw; (try dsimp only at hSw); go_simp; try with_reducible rfl
  (try simp only [Act.put, List.setIfInBounds_toArray, List.set_cons_zero, List.set_cons_succ])
  refine wpAnyH_take (i := 3) (oi := ⟨some 12, _, _, _, _, _⟩) (v := ?_) rfl (by kernel_rfl) (by kernel_rfl) (by kernel_rfl) (fun _ _ _ h => h) (Or.inl ⟨by rfl, ?_⟩) (by assumption) ?_
  rotate_left
  · intro w hSw; (try dsimp only at hSw); go_simp; try with_reducible rfl
  (try simp only [Act.put, List.setIfInBounds_toArray, List.set_cons_zero, List.set_cons_succ])
  refine wpAnyH_take (i := 5) (oi := ⟨some 14, _, _, _, _, _⟩) (v := ?_) rfl (by kernel_rfl) (by kernel_rfl) (by kernel_rfl) (fun _ _ _ h => h) (Or.inl ⟨by rfl, ?_⟩) (by assumption) ?_
  rotate_left
  · intro w hSw; (try dsimp only at hSw); go_simp; try with_reducible rfl
  (try simp only [Act.put, List.setIfInBounds_toArray, List.set_cons_zero, List.set_cons_succ])
  refine wpAnyH_take (i := 6) (oi := ⟨some 15, _, _, _, _, _⟩) (v := ?_) rfl (by kernel_rfl) (by kernel_rfl) (by kernel_rfl) (fun _ _ _ h => h) (Or.inl ⟨by rfl, ?_⟩) (by assumption) ?_
  rotate_left
  · intro w hSw; (try dsimp only at hSw); go_simp; try with_reducible rfl
  (try simp only [Act.put, List.setIfInBounds_toArray, List.set_cons_zero, List.set_cons_succ])
  refine wpAnyH_take (i := 7) (oi := ⟨some 16, _, _, _, _, _⟩) (v := ?_) rfl (by kernel_rfl) (by kernel_rfl) (by kernel_rfl) (fun _ _ _ h => h) (Or.inl ⟨by rfl, ?_⟩) (by assumption) ?_
  rotate_left
  · intro w hSw; (try dsimp only at hSw); go_simp; try with_reducible rfl
  (try simp only [Act.put, List.setIfInBounds_toArray, List.set_cons_zero, List.set_cons_succ])
  refine wpAnyH_take (i := 9) (oi := ⟨some 18, _, _, _, _, _⟩) (v := ?_) rfl (by kernel_rfl) (by kernel_rfl) (by kernel_rfl) (fun _ _ _ h => h) (Or.inl ⟨by rfl, ?_⟩) (by assumption) ?_
  rotate_left
  · intro w hSw; (try dsimp only at hSw); go_simp; try with_reducible rfl
  (try simp only [Act.put, List.setIfInBounds_toArray, List.set_cons_zero, List.set_cons_succ])
  refine wpAnyH_take (i := 10) (oi := ⟨some 19, _, _, _, _, _⟩) (v := ?_) rfl (by kernel_rfl) (by kernel_rfl) (by kernel_rfl) (fun _ _ _ h => h) (Or.inl ⟨by rfl, ?_⟩) (by assumption) ?_
  rotate_left
  · intro w hSw; (try dsimp only at hSw); go_simp; try with_reducible rfl
  (try simp only [Act.put, List.setIfInBounds_toArray, List.set_cons_zero, List.set_cons_succ])
  refine wpAnyH_take (i := 12) (oi := ⟨some 21, _, _, _, _, _⟩) (v := ?_) rfl (by kernel_rfl) (by kernel_rfl) (by kernel_rfl) (fun _ _ _ h => h) (Or.inl ⟨by rfl, ?_⟩) (by assumption) ?_
  rotate_left
  · intro w hSw; (try dsimp only at hSw); go_simp; try with_reducible rfl
  (try simp only [Act.put, List.setIfInBounds_toArray, List.set_cons_zero, List.set_cons_succ])
  refine wpAnyH_take (i := 2) (oi := ⟨some 11, _, _, _, _, _⟩) (v := ?_) rfl (by kernel_rfl) (by kernel_rfl) (by kernel_rfl) (fun _ _ _ h => h) (Or.inl ⟨by rfl, ?_⟩) (by assumption) ?_
  rotate_left
  · intro w hSw; (try dsimp only at hSw); go_simp; try with_reducible rfl
  (try simp only [Act.put, List.setIfInBounds_toArray, List.set_cons_zero, List.set_cons_succ])
  refine wpAnyH_take (i := 4) (oi := ⟨some 13, _, _, _, _, _⟩) (v := ?_) rfl (by kernel_rfl) (by kernel_rfl) (by kernel_rfl) (fun _ _ _ h => h) (Or.inl ⟨by rfl, ?_⟩) (by assumption) ?_
  rotate_left
  · intro w hSw; (try dsimp only at hSw); go_simp; try with_reducible rfl
  (try simp only [Act.put, List.setIfInBounds_toArray, List.set_cons_zero, List.set_cons_succ])
  refine wpAnyH_ready (rs := [8]) (by kernel_rfl) (by simp) ?_
  refine (AllReadyH.cons (o := ⟨some 17, _, _, _, _, _⟩) rfl (fun K hK => ?_) AllReadyH.nil)
  rw [if_pos (by rfl)]
  go_simp
  go_at_call 87
  refine (isSector_any ga (k : Int) (p : Int) _).mono ?_
  rintro _ w3 ⟨g0, g1, g2, rfl, h4⟩
  have hA1 := St.call hX h4
  clear h4
  refine hK.out _ _ ?_ (fun hHeld => ?_)
  · exact ⟨ldS [_, _, _] hA1 (rfl), ldS [_, _, _, _] hA1 (rfl)⟩
  clear hK K
  (try simp only [Act.put, List.setIfInBounds_toArray, List.set_cons_zero, List.set_cons_succ])
  refine wpAnyH_ready (rs := [11]) (by kernel_rfl) (by simp) ?_
  refine (AllReadyH.cons (o := ⟨some 20, _, _, _, _, _⟩) rfl (fun K hK => ?_) AllReadyH.nil)
  rw [if_pos (by rfl)]
  go_simp
  go_at_call 89
  refine (isHere_any ga (k : Int) _).mono ?_
  rintro _ w4 ⟨k0, k1, rfl, h4⟩
  have hA2 := St.call hA1 h4
  clear h4
  refine hK.out _ _ ?_ (fun hHeld => ?_)
  · exact ⟨ldS [_, _, _, _, _] hA2 (rfl), ldS [_, _, _, _, _, _] hA2 (rfl)⟩
  clear hK K
  (try simp only [Act.put, List.setIfInBounds_toArray, List.set_cons_zero, List.set_cons_succ])
  refine wpAnyH_ready (rs := [13]) (by kernel_rfl) (by simp) ?_
  refine (AllReadyH.cons (o := ⟨some 22, _, _, _, _, _⟩) rfl (fun K hK => ?_) AllReadyH.nil)
  rw [if_pos (by rfl)]
  refine ow_of_wl (ops := #[]) (by rfl) ?_
  apply wl_bsX ([methV 46 (ptrV ga), methV 88 (ptrV ga), cloV 138 [ptrV g0, ptrV g1, ptrV g2], cloV 139 [ptrV k0, ptrV k1], cloV 90 [ptrV g3, ptrV g4]]) ([methV 46 (ptrV ga), methV 88 (ptrV ga), cloV 138 [ptrV g0, ptrV g1, ptrV g2], cloV 139 [ptrV k0, ptrV k1], cloV 90 [ptrV g3, ptrV g4]]) hA2
  rfl
  rfl
  exact rfl
  exact rfl
  infer_instance
  infer_instance
  rfl
  rfl
  rfl
  intro gs w5 hA3
  refine q0_nil ?_
  refine hK.out _ _ ?_ (fun hHeld => ?_)
  · exact ⟨ldS [_, _, _, _, _, _] hA3 (rfl), ldS [_, _, _, _, _, _, _] hA3 (rfl)⟩
  clear hK K
  (try simp only [Act.put, List.setIfInBounds_toArray, List.set_cons_zero, List.set_cons_succ])
  refine wpAnyH_ready (rs := [14]) (by kernel_rfl) (by simp) ?_
  refine (AllReadyH.cons (o := ⟨some 23, _, _, _, _, _⟩) rfl (fun K hK => ?_) AllReadyH.nil)
  rw [if_pos (by rfl)]
  go_simp
  (go_at_call 45; have hC := checks_any (k : Int) (v := .slice (some ⟨gs, 0, none⟩) 5 5) (n := 5) (fs := [methV 46 (ptrV ga), methV 88 (ptrV ga), cloV 138 [ptrV g0, ptrV g1, ptrV g2], cloV 139 [ptrV k0, ptrV k1]]) (f9 := cloV 90 [ptrV g3, ptrV g4]) (es := readL a (k : Int) (p : Int)) (e9 := 13) (A := (fun w' => St w (arF ga x a) w' (([HA.blk gs 92 ([methV 46 (ptrV ga), methV 88 (ptrV ga), cloV 138 [ptrV g0, ptrV g1, ptrV g2], cloV 139 [ptrV k0, ptrV k1], cloV 90 [ptrV g3, ptrV g4]]), .blk k1 3 [.int .i64 (k : Int)], .blk k0 23 [.pointer (some ⟨ga, 0, none⟩)], .blk g2 3 [.int .i64 (p : Int)], .blk g1 3 [.int .i64 (k : Int)], .blk g0 23 [.pointer (some ⟨ga, 0, none⟩)], .blk g4 3 [.int .i64 (k : Int)], .blk g3 23 [.pointer (some ⟨ga, 0, none⟩)]] : List HA) ++ arP ga x a))) (B := (fun w' => St w (arF ga x a) w' (([HA.blk gs 92 ([methV 46 (ptrV ga), methV 88 (ptrV ga), cloV 138 [ptrV g0, ptrV g1, ptrV g2], cloV 139 [ptrV k0, ptrV k1], cloV 90 [ptrV g3, ptrV g4]]), .blk k1 3 [.int .i64 (k : Int)], .blk k0 23 [.pointer (some ⟨ga, 0, none⟩)], .blk g2 3 [.int .i64 (p : Int)], .blk g1 3 [.int .i64 (k : Int)], .blk g0 23 [.pointer (some ⟨ga, 0, none⟩)], .blk g4 3 [.int .i64 (k : Int)], .blk g3 23 [.pointer (some ⟨ga, 0, none⟩)]] : List HA) ++ arP ga x a9))) _ (fun _ h => Rd.blk h (.head _) (Nat.le_refl _) (by decide) rfl rfl) rfl rfl (by decide) (read_probes (fun _ h => ArrAt.of h (fun p hp => List.mem_append_right _ hp) OK.out.d0) keeps_st (fun _ h => St.cell h (off := 0) (.tail _ (.tail _ (.tail _ (.tail _ (.tail _ (.head _)))))) rfl) (fun _ h => St.cell h (off := 0) (.tail _ (.tail _ (.tail _ (.tail _ (.head _))))) rfl) (fun _ h => St.cell h (off := 0) (.tail _ (.tail _ (.tail _ (.head _)))) rfl) (fun _ h => St.cell h (off := 0) (.tail _ (.tail _ (.head _))) rfl) (fun _ h => St.cell h (off := 0) (.tail _ (.head _)) rfl)) (fun _ => HPS.out _ ([HA.blk gs 92 ([methV 46 (ptrV ga), methV 88 (ptrV ga), cloV 138 [ptrV g0, ptrV g1, ptrV g2], cloV 139 [ptrV k0, ptrV k1], cloV 90 [ptrV g3, ptrV g4]]), .blk k1 3 [.int .i64 (k : Int)], .blk k0 23 [.pointer (some ⟨ga, 0, none⟩)], .blk g2 3 [.int .i64 (p : Int)], .blk g1 3 [.int .i64 (k : Int)], .blk g0 23 [.pointer (some ⟨ga, 0, none⟩)], .blk g4 3 [.int .i64 (k : Int)], .blk g3 23 [.pointer (some ⟨ga, 0, none⟩)]] : List HA) _ _ (.tail _ (.tail _ (.tail _ (.tail _ (.tail _ (.tail _ (.tail _ (.head _)))))))) (.tail _ (.tail _ (.tail _ (.tail _ (.tail _ (.tail _ (.head _)))))))) hA3; refine hC.mono ?_; rintro _ w5 hh; obtain ⟨rfl, h4⟩ := checks_last H1.out (by decide) hh; clear hC hh hA3; have hA4 := h4; clear h4)
  refine hK.out _ _ ?_ (fun hHeld => ?_)
  · exact ⟨ldS [_, _, _, _, _, _] hA4 (rfl), ldS [_, _, _, _, _, _, _] hA4 (rfl)⟩
  clear hK K
  (try simp only [Act.put, List.setIfInBounds_toArray, List.set_cons_zero, List.set_cons_succ])
  refine wpAnyH_take (i := 15) (oi := ⟨some 8, _, _, _, _, _⟩) (v := ?_) rfl (by kernel_rfl) (by kernel_rfl) (by kernel_rfl) (fun _ _ _ h => h) (Or.inl ⟨by rfl, ?_⟩) (by assumption) ?_
  rotate_left
  · intro w hSw; (try dsimp only at hSw); go_simp; try with_reducible rfl
  (try simp only [Act.put, List.setIfInBounds_toArray, List.set_cons_zero, List.set_cons_succ])
  refine wpAnyH_done (by kernel_rfl) ?_ _
  clear hHeld
  go_wp2_with (first | go_big_skip | go_big_guard | (go_at_call 47; refine (number_isE 13 (k : Int) (by unfold isE; decide) (by decide) _).mono ?_; rintro _ w6 ⟨rfl, h4⟩; have hst6 := St.call0 hA4 h4; clear h4 hA4))
  go_ret2
  exact ⟨.slice none 0 0, rfl, St.nilPQ isB _ 1 (St.sub hst6 (List.sublist_append_right _ _))⟩
theorem read_fineP {w : World} {ga : Nat} {x : GA} {a : AR} (hS : St w (arF ga x a) w (arP ga x a)) (ok : a.Ok) (hll : a.loose.length < 1000000) (k p : Nat) (h1 : firstE (readL a (k : Int) (p : Int)) = 0) (h2 : ¬ 0 < (a.dv (k : Int)).fail) :
    Calls Tryz.prog 36 #[.pointer (some ⟨ga, 0, none⟩), .int .i64 (k : Int), .int .i64 (p : Int)] w fun e w' => ∃ u, e = .returned (.tuple #[u, .int .i64 (a.readE (k : Int) (p : Int))]) ∧ St w (arF ga x a) w' (.rowP isB u 5 1 (a.readB (k : Int) (p : Int)).length (bytesV (a.readB (k : Int) (p : Int))) :: arP ga x (a.read (k : Int) (p : Int))) := by
  have hb := read_ok ok.d0 h1
  have hin : a.inD (k : Int) = true := inS_inD hb.1
  have hfm := ok.fm _ (List.mem_of_getElem? (devs_get hin))
  have HPS : Hid (∀ (M : List Nat) (L1 : List HA) (g3 g4 : Nat), HA.blk g3 23 [.pointer (some ⟨ga, 0, none⟩)] ∈ L1 → HA.blk g4 3 [.int .i64 (k : Int)] ∈ L1 →
      Probe (cloV 90 [ptrV g3, ptrV g4]) 0 (fun w' => St w M w' (L1 ++ arP ga x a)) (fun w' => St w M w' (L1 ++ arP ga x (a.failed (k : Int))))) := hid (by
    intro M L1 g3 g4 c0 c1
    have := probe_read (w0 := w) (M := M) (L1 := L1) (ga := ga) (x := x) hin ⟨hfm.2.2.2.1, hfm.2.2.2.2⟩ c0 c1
    unfold AR.failE at this
    rw [if_neg h2] at this
    exact this)
  have hee : a.failE (k : Int) = 0 := by unfold AR.failE; rw [if_neg h2]
  have hbb : a.readB (k : Int) (p : Int) = a.tells (k : Int) (p : Int) := by unfold AR.readB; rw [hb.2.1, hee]; rfl
  rw [hbb, hb.2.1, hb.2.2, hee]
  have HS := hid hb.1
  have H1 := hid h1
  have OK := hid ok
  have hst0 := hS
  have hmf := rmf
  have hfd : a.failed (k : Int) = a := by unfold AR.failed; rw [if_neg h2]
  rw [hfd] at HPS ⊢
  have hT := tells_len ok hb.1 a.loose.length
  rw [List.take_length] at hT
  have HT := hid (show (a.tells (k : Int) (p : Int)).length = 256 from hT)
  obtain ⟨R, hR⟩ : ∃ R, R = a.tells (k : Int) (p : Int) := ⟨_, rfl⟩
  have HR := hid hR
  rw [← hR] at HT ⊢
  clear hT hR hfd
  clear hb hin hfm hee hbb h1 h2 ok hS
  go_enter Tryz.func36, Tryz.ntmps36
  go_wp2_with (first | go_big_skip | go_big_guard | (refine wl_box hst0 rfl rfl rfl ?_; intro g3 w1 hst1; clear hst0) | (refine wl_box hst1 rfl rfl rfl ?_; intro g4 w2 hst2; clear hst1))
  have hX := hst2.drew
  clear hst2
  refine wp_region_held_drew (S := (fun w' => (loadVarH 3 ⟨g4, 0, none⟩).run Tryz.prog w' = .ok (.int .i64 (k : Int)) w' ∧ (loadVarH 23 ⟨g3, 0, none⟩).run Tryz.prog w' = .ok (.pointer (some ⟨ga, 0, none⟩)) w')) (by kernel_rfl) (by exact ⟨ldS [] hX (rfl), ldS [_] hX (rfl)⟩) (fun hHeld => ?_)
  refine wpAnyH_take (i := 0) (oi := ⟨some 9, _, _, _, _, _⟩) (v := ?_) rfl (by kernel_rfl) (by kernel_rfl) (by kernel_rfl) (fun _ _ _ h => h) (Or.inl ⟨by rfl, ?_⟩) (by assumption) ?_
  rotate_left
  · intro w hSw; (try dsimp only at hSw); go_simp; try with_reducible rfl
  (try simp only [Act.put, List.setIfInBounds_toArray, List.set_cons_zero, List.set_cons_succ])
  refine wpAnyH_take (i := 1) (oi := ⟨some 10, _, _, _, _, _⟩) (v := ?_) rfl (by kernel_rfl) (by kernel_rfl) (by kernel_rfl) (fun _ _ _ h => h) (Or.inl ⟨by rfl, ?_⟩) (by assumption) ?_
  rotate_left
  · intro w hSw; (try dsimp only at hSw); go_simp; try with_reducible rfl
  (try simp only [Act.put, List.setIfInBounds_toArray, List.set_cons_zero, List.set_cons_succ])
  refine wpAnyH_take (i := 3) (oi := ⟨some 12, _, _, _, _, _⟩) (v := ?_) rfl (by kernel_rfl) (by kernel_rfl) (by kernel_rfl) (fun _ _ _ h => h) (Or.inl ⟨by rfl, ?_⟩) (by assumption) ?_
  rotate_left
  · intro w hSw; (try dsimp only at hSw); go_simp; try with_reducible rfl
  (try simp only [Act.put, List.setIfInBounds_toArray, List.set_cons_zero, List.set_cons_succ])
  refine wpAnyH_take (i := 5) (oi := ⟨some 14, _, _, _, _, _⟩) (v := ?_) rfl (by kernel_rfl) (by kernel_rfl) (by kernel_rfl) (fun _ _ _ h => h) (Or.inl ⟨by rfl, ?_⟩) (by assumption) ?_
  rotate_left
  · intro w hSw; (try dsimp only at hSw); go_simp; try with_reducible rfl
  (try simp only [Act.put, List.setIfInBounds_toArray, List.set_cons_zero, List.set_cons_succ])
  refine wpAnyH_take (i := 6) (oi := ⟨some 15, _, _, _, _, _⟩) (v := ?_) rfl (by kernel_rfl) (by kernel_rfl) (by kernel_rfl) (fun _ _ _ h => h) (Or.inl ⟨by rfl, ?_⟩) (by assumption) ?_
  rotate_left
  · intro w hSw; (try dsimp only at hSw); go_simp; try with_reducible rfl
  (try simp only [Act.put, List.setIfInBounds_toArray, List.set_cons_zero, List.set_cons_succ])
  refine wpAnyH_take (i := 7) (oi := ⟨some 16, _, _, _, _, _⟩) (v := ?_) rfl (by kernel_rfl) (by kernel_rfl) (by kernel_rfl) (fun _ _ _ h => h) (Or.inl ⟨by rfl, ?_⟩) (by assumption) ?_
  rotate_left
  · intro w hSw; (try dsimp only at hSw); go_simp; try with_reducible rfl
  (try simp only [Act.put, List.setIfInBounds_toArray, List.set_cons_zero, List.set_cons_succ])
  refine wpAnyH_take (i := 9) (oi := ⟨some 18, _, _, _, _, _⟩) (v := ?_) rfl (by kernel_rfl) (by kernel_rfl) (by kernel_rfl) (fun _ _ _ h => h) (Or.inl ⟨by rfl, ?_⟩) (by assumption) ?_
  rotate_left
  · intro w hSw; (try dsimp only at hSw); go_simp; try with_reducible rfl
  (try simp only [Act.put, List.setIfInBounds_toArray, List.set_cons_zero, List.set_cons_succ])
  refine wpAnyH_take (i := 10) (oi := ⟨some 19, _, _, _, _, _⟩) (v := ?_) rfl (by kernel_rfl) (by kernel_rfl) (by kernel_rfl) (fun _ _ _ h => h) (Or.inl ⟨by rfl, ?_⟩) (by assumption) ?_
  rotate_left
  · intro w hSw; (try dsimp only at hSw); go_simp; try with_reducible rfl
  (try simp only [Act.put, List.setIfInBounds_toArray, List.set_cons_zero, List.set_cons_succ])
  refine wpAnyH_take (i := 12) (oi := ⟨some 21, _, _, _, _, _⟩) (v := ?_) rfl (by kernel_rfl) (by kernel_rfl) (by kernel_rfl) (fun _ _ _ h => h) (Or.inl ⟨by rfl, ?_⟩) (by assumption) ?_
  rotate_left
  · intro w hSw; (try dsimp only at hSw); go_simp; try with_reducible rfl
  (try simp only [Act.put, List.setIfInBounds_toArray, List.set_cons_zero, List.set_cons_succ])
  refine wpAnyH_take (i := 2) (oi := ⟨some 11, _, _, _, _, _⟩) (v := ?_) rfl (by kernel_rfl) (by kernel_rfl) (by kernel_rfl) (fun _ _ _ h => h) (Or.inl ⟨by rfl, ?_⟩) (by assumption) ?_
  rotate_left
  · intro w hSw; (try dsimp only at hSw); go_simp; try with_reducible rfl
  (try simp only [Act.put, List.setIfInBounds_toArray, List.set_cons_zero, List.set_cons_succ])
  refine wpAnyH_take (i := 4) (oi := ⟨some 13, _, _, _, _, _⟩) (v := ?_) rfl (by kernel_rfl) (by kernel_rfl) (by kernel_rfl) (fun _ _ _ h => h) (Or.inl ⟨by rfl, ?_⟩) (by assumption) ?_
  rotate_left
  · intro w hSw; (try dsimp only at hSw); go_simp; try with_reducible rfl
  (try simp only [Act.put, List.setIfInBounds_toArray, List.set_cons_zero, List.set_cons_succ])
  refine wpAnyH_ready (rs := [8]) (by kernel_rfl) (by simp) ?_
  refine (AllReadyH.cons (o := ⟨some 17, _, _, _, _, _⟩) rfl (fun K hK => ?_) AllReadyH.nil)
  rw [if_pos (by rfl)]
  go_simp
  go_at_call 87
  refine (isSector_any ga (k : Int) (p : Int) _).mono ?_
  rintro _ w3 ⟨g0, g1, g2, rfl, h4⟩
  have hA1 := St.call hX h4
  clear h4
  refine hK.out _ _ ?_ (fun hHeld => ?_)
  · exact ⟨ldS [_, _, _] hA1 (rfl), ldS [_, _, _, _] hA1 (rfl)⟩
  clear hK K
  (try simp only [Act.put, List.setIfInBounds_toArray, List.set_cons_zero, List.set_cons_succ])
  refine wpAnyH_ready (rs := [11]) (by kernel_rfl) (by simp) ?_
  refine (AllReadyH.cons (o := ⟨some 20, _, _, _, _, _⟩) rfl (fun K hK => ?_) AllReadyH.nil)
  rw [if_pos (by rfl)]
  go_simp
  go_at_call 89
  refine (isHere_any ga (k : Int) _).mono ?_
  rintro _ w4 ⟨k0, k1, rfl, h4⟩
  have hA2 := St.call hA1 h4
  clear h4
  refine hK.out _ _ ?_ (fun hHeld => ?_)
  · exact ⟨ldS [_, _, _, _, _] hA2 (rfl), ldS [_, _, _, _, _, _] hA2 (rfl)⟩
  clear hK K
  (try simp only [Act.put, List.setIfInBounds_toArray, List.set_cons_zero, List.set_cons_succ])
  refine wpAnyH_ready (rs := [13]) (by kernel_rfl) (by simp) ?_
  refine (AllReadyH.cons (o := ⟨some 22, _, _, _, _, _⟩) rfl (fun K hK => ?_) AllReadyH.nil)
  rw [if_pos (by rfl)]
  refine ow_of_wl (ops := #[]) (by rfl) ?_
  apply wl_bsX ([methV 46 (ptrV ga), methV 88 (ptrV ga), cloV 138 [ptrV g0, ptrV g1, ptrV g2], cloV 139 [ptrV k0, ptrV k1], cloV 90 [ptrV g3, ptrV g4]]) ([methV 46 (ptrV ga), methV 88 (ptrV ga), cloV 138 [ptrV g0, ptrV g1, ptrV g2], cloV 139 [ptrV k0, ptrV k1], cloV 90 [ptrV g3, ptrV g4]]) hA2
  rfl
  rfl
  exact rfl
  exact rfl
  infer_instance
  infer_instance
  rfl
  rfl
  rfl
  intro gs w5 hA3
  refine q0_nil ?_
  refine hK.out _ _ ?_ (fun hHeld => ?_)
  · exact ⟨ldS [_, _, _, _, _, _] hA3 (rfl), ldS [_, _, _, _, _, _, _] hA3 (rfl)⟩
  clear hK K
  (try simp only [Act.put, List.setIfInBounds_toArray, List.set_cons_zero, List.set_cons_succ])
  refine wpAnyH_ready (rs := [14]) (by kernel_rfl) (by simp) ?_
  refine (AllReadyH.cons (o := ⟨some 23, _, _, _, _, _⟩) rfl (fun K hK => ?_) AllReadyH.nil)
  rw [if_pos (by rfl)]
  go_simp
  (go_at_call 45; have hC := checks_any (k : Int) (v := .slice (some ⟨gs, 0, none⟩) 5 5) (n := 5) (fs := [methV 46 (ptrV ga), methV 88 (ptrV ga), cloV 138 [ptrV g0, ptrV g1, ptrV g2], cloV 139 [ptrV k0, ptrV k1]]) (f9 := cloV 90 [ptrV g3, ptrV g4]) (es := readL a (k : Int) (p : Int)) (e9 := 0) (A := (fun w' => St w (arF ga x a) w' (([HA.blk gs 92 ([methV 46 (ptrV ga), methV 88 (ptrV ga), cloV 138 [ptrV g0, ptrV g1, ptrV g2], cloV 139 [ptrV k0, ptrV k1], cloV 90 [ptrV g3, ptrV g4]]), .blk k1 3 [.int .i64 (k : Int)], .blk k0 23 [.pointer (some ⟨ga, 0, none⟩)], .blk g2 3 [.int .i64 (p : Int)], .blk g1 3 [.int .i64 (k : Int)], .blk g0 23 [.pointer (some ⟨ga, 0, none⟩)], .blk g4 3 [.int .i64 (k : Int)], .blk g3 23 [.pointer (some ⟨ga, 0, none⟩)]] : List HA) ++ arP ga x a))) (B := (fun w' => St w (arF ga x a) w' (([HA.blk gs 92 ([methV 46 (ptrV ga), methV 88 (ptrV ga), cloV 138 [ptrV g0, ptrV g1, ptrV g2], cloV 139 [ptrV k0, ptrV k1], cloV 90 [ptrV g3, ptrV g4]]), .blk k1 3 [.int .i64 (k : Int)], .blk k0 23 [.pointer (some ⟨ga, 0, none⟩)], .blk g2 3 [.int .i64 (p : Int)], .blk g1 3 [.int .i64 (k : Int)], .blk g0 23 [.pointer (some ⟨ga, 0, none⟩)], .blk g4 3 [.int .i64 (k : Int)], .blk g3 23 [.pointer (some ⟨ga, 0, none⟩)]] : List HA) ++ arP ga x a))) _ (fun _ h => Rd.blk h (.head _) (Nat.le_refl _) (by decide) rfl rfl) rfl rfl (by decide) (read_probes (fun _ h => ArrAt.of h (fun p hp => List.mem_append_right _ hp) OK.out.d0) keeps_st (fun _ h => St.cell h (off := 0) (.tail _ (.tail _ (.tail _ (.tail _ (.tail _ (.head _)))))) rfl) (fun _ h => St.cell h (off := 0) (.tail _ (.tail _ (.tail _ (.tail _ (.head _))))) rfl) (fun _ h => St.cell h (off := 0) (.tail _ (.tail _ (.tail _ (.head _)))) rfl) (fun _ h => St.cell h (off := 0) (.tail _ (.tail _ (.head _))) rfl) (fun _ h => St.cell h (off := 0) (.tail _ (.head _)) rfl)) (fun _ => HPS.out _ ([HA.blk gs 92 ([methV 46 (ptrV ga), methV 88 (ptrV ga), cloV 138 [ptrV g0, ptrV g1, ptrV g2], cloV 139 [ptrV k0, ptrV k1], cloV 90 [ptrV g3, ptrV g4]]), .blk k1 3 [.int .i64 (k : Int)], .blk k0 23 [.pointer (some ⟨ga, 0, none⟩)], .blk g2 3 [.int .i64 (p : Int)], .blk g1 3 [.int .i64 (k : Int)], .blk g0 23 [.pointer (some ⟨ga, 0, none⟩)], .blk g4 3 [.int .i64 (k : Int)], .blk g3 23 [.pointer (some ⟨ga, 0, none⟩)]] : List HA) _ _ (.tail _ (.tail _ (.tail _ (.tail _ (.tail _ (.tail _ (.tail _ (.head _)))))))) (.tail _ (.tail _ (.tail _ (.tail _ (.tail _ (.tail _ (.head _)))))))) hA3; refine hC.mono ?_; rintro _ w5 hh; obtain ⟨rfl, h4⟩ := checks_fine H1.out hh; clear hC hh hA3; have hA4 := h4; clear h4)
  refine hK.out _ _ ?_ (fun hHeld => ?_)
  · exact ⟨ldS [_, _, _, _, _, _] hA4 (rfl), ldS [_, _, _, _, _, _, _] hA4 (rfl)⟩
  clear hK K
  (try simp only [Act.put, List.setIfInBounds_toArray, List.set_cons_zero, List.set_cons_succ])
  refine wpAnyH_take (i := 15) (oi := ⟨some 8, _, _, _, _, _⟩) (v := ?_) rfl (by kernel_rfl) (by kernel_rfl) (by kernel_rfl) (fun _ _ _ h => h) (Or.inl ⟨by rfl, ?_⟩) (by assumption) ?_
  rotate_left
  · intro w hSw; (try dsimp only at hSw); go_simp; try with_reducible rfl
  (try simp only [Act.put, List.setIfInBounds_toArray, List.set_cons_zero, List.set_cons_succ])
  refine wpAnyH_done (by kernel_rfl) ?_ _
  clear hHeld
  go_wp2_with (first | go_big_skip | go_big_guard | (refine wl_loadE rfl rfl rfl ?_; first | refine ⟨_, Loads.at [_, _, _, _, _, _] hA4 rfl, ?_⟩ | refine ⟨_, Loads.at [_, _, _, _, _, _, _] hA4 rfl, ?_⟩) | (go_at_call 50; refine (tells_anyP (ArrAll.of hA4 (fun p hp => List.mem_append_right _ hp) OK.out.d0) OK.out hll k p HS.out).mono ?_; rw [← HR.out]; rintro _ w8 ⟨u, rfl, h4⟩; have hst6 := St.call hA4 h4; clear h4 hA4))
  go_ret2
  refine ⟨u, rfl, ?_⟩
  rw [HT.out]
  exact St.sub hst6 (.cons_cons _ (List.sublist_append_right _ _))
end
theorem readM_anyP {w : World} {ga : Nat} {x : GA} {a : AR} (hS : St w (arF ga x a) w (arP ga x a)) (ok : a.Ok) (hll : a.loose.length < 1000000) (dev pl : Int) :
    Calls Tryz.prog 36 #[.pointer (some ⟨ga, 0, none⟩), .int .i64 dev, .int .i64 pl] w fun e w' => ∃ u, e = .returned (.tuple #[u, .int .i64 (a.readE dev pl)]) ∧ St w (arF ga x a) w' (.rowP isB u 5 1 (a.readB dev pl).length (bytesV (a.readB dev pl)) :: arP ga x (a.read dev pl)) := by
  by_cases h1 : firstE (readL a dev pl) = 0
  · have hb := read_ok ok.d0 h1
    obtain ⟨k, rfl⟩ : ∃ k : Nat, dev = k := ⟨dev.toNat, by have := (inD_dev (inS_inD hb.1)).1; omega⟩
    obtain ⟨p, rfl⟩ : ∃ p : Nat, pl = p := ⟨pl.toNat, by have := (inS_pl hb.1).1; omega⟩
    by_cases h2 : 0 < (a.dv (k : Int)).fail
    · exact read_failP hS ok hll k p h1 h2
    · exact read_fineP hS ok hll k p h1 h2
  · exact read_badP hS ok hll dev pl h1
end Go.Proofs.YtmdfbdfijnmhkaaGreat
namespace Go.Proofs.YtmdfbdfijnmhkaaGreat
set_option linter.unusedVariables false
set_option linter.unusedSimpArgs false
open Hp
def byteAt (n : Int) (i : Nat) : UInt8 := UInt8.ofNat ((n / 2 ^ (8 * i)) % 256).toNat
theorem byteAt_int (n : Int) (i : Nat) : ((byteAt n i).toNat : Int) = n / 2 ^ (8 * i) % 256 := by
  unfold byteAt
  rw [UInt8.toNat_ofNat']
  have := Int.emod_nonneg (n / 2 ^ (8 * i)) (show (256 : Int) ≠ 0 by decide)
  have := Int.emod_lt_of_pos (n / 2 ^ (8 * i)) (show (0 : Int) < 256 by decide)
  omega
def numB (n : Int) : Nat → List UInt8
  | 0 => []
  | k + 1 => byteAt n k :: numB n k
theorem length_numB (n : Int) (k : Nat) : (numB n k).length = k := by
  induction k with
  | zero => rfl
  | succ k ih => simp [numB, ih]
theorem numB_get (n : Int) : ∀ (k i : Nat), i < k → (numB n k)[i]? = some (byteAt n (k - 1 - i))
  | 0, _, h => by omega
  | k + 1, 0, _ => by simp [numB]
  | k + 1, i + 1, h => by
    simp only [numB, List.getElem?_cons_succ]
    rw [numB_get n k i (by omega)]
    congr 2; omega
theorem numB_take (n : Int) (k i : Nat) (h : i < k) : (numB n k).take (i + 1) = (numB n k).take i ++ [byteAt n (k - 1 - i)] := by
  rw [List.take_add_one, numB_get n k i h]; rfl
theorem bytesV_append (l k : List UInt8) : bytesV (l ++ k) = bytesV l ++ bytesV k := by simp [bytesV]
def beN (l : List UInt8) : Nat := l.foldl (fun a x => a * 256 + x.toNat) 0
section
open Go.RowKit
theorem Rd.tail {w : World} {b off n c k : Nat} {l : List UInt8} (h : Rd w (.slice (some ⟨b, off, none⟩) n c) 1 n (bytesV l)) (hk : k ≤ n) (hc : k < c) : Rd w (.slice (some ⟨b, off + k, none⟩) (n - k) (c - k)) 1 (n - k) (bytesV (l.drop k)) := by
  have hl := h.bd
  have hr := h.range
  obtain ⟨hl1, ao, c', he, hn, hcm, hnone, hsome⟩ := h
  simp only [Value.slice.injEq, true_and] at he
  obtain ⟨he1, rfl⟩ := he
  refine Rd.mk (by omega) (by unfold maxLen at *; omega) (by simp at hl1 ⊢; omega) ?_
  intro j v hv
  have := hr (k + j) v (by simpa [bytesV, List.getElem?_drop] using hv)
  rwa [← Nat.add_assoc] at this
end
end Go.Proofs.YtmdfbdfijnmhkaaGreat
namespace Go.Proofs.YtmdfbdfijnmhkaaGreat
set_option linter.unusedVariables false
set_option linter.unusedSimpArgs false
open Hp
abbrev Wd := BitVec 32
def rotr (x : Wd) (n : Nat) : Wd := x >>> n ||| x <<< (32 - n)
def kT : List Wd := [0x428a2f98, 0x71374491, 0xb5c0fbcf, 0xe9b5dba5, 0x3956c25b, 0x59f111f1, 0x923f82a4, 0xab1c5ed5,
  0xd807aa98, 0x12835b01, 0x243185be, 0x550c7dc3, 0x72be5d74, 0x80deb1fe, 0x9bdc06a7, 0xc19bf174,
  0xe49b69c1, 0xefbe4786, 0x0fc19dc6, 0x240ca1cc, 0x2de92c6f, 0x4a7484aa, 0x5cb0a9dc, 0x76f988da,
  0x983e5152, 0xa831c66d, 0xb00327c8, 0xbf597fc7, 0xc6e00bf3, 0xd5a79147, 0x06ca6351, 0x14292967,
  0x27b70a85, 0x2e1b2138, 0x4d2c6dfc, 0x53380d13, 0x650a7354, 0x766a0abb, 0x81c2c92e, 0x92722c85,
  0xa2bfe8a1, 0xa81a664b, 0xc24b8b70, 0xc76c51a3, 0xd192e819, 0xd6990624, 0xf40e3585, 0x106aa070,
  0x19a4c116, 0x1e376c08, 0x2748774c, 0x34b0bcb5, 0x391c0cb3, 0x4ed8aa4a, 0x5b9cca4f, 0x682e6ff3,
  0x748f82ee, 0x78a5636f, 0x84c87814, 0x8cc70208, 0x90befffa, 0xa4506ceb, 0xbef9a3f7, 0xc67178f2]
structure S8 where
  (a b c d e f g h : Wd)
deriving DecidableEq
def S8.list (s : S8) : List Wd := [s.a, s.b, s.c, s.d, s.e, s.f, s.g, s.h]
def S8.start : S8 := ⟨0x6a09e667, 0xbb67ae85, 0x3c6ef372, 0xa54ff53a, 0x510e527f, 0x9b05688c, 0x1f83d9ab, 0x5be0cd19⟩
def sg0 (x : Wd) : Wd := rotr x 7 ^^^ rotr x 18 ^^^ x >>> 3
def sg1 (y : Wd) : Wd := rotr y 17 ^^^ rotr y 19 ^^^ y >>> 10
def byW (p : List UInt8) (i : Nat) : Wd := BitVec.ofNat 32 (p.getD i 0).toNat
def word4 (p : List UInt8) (i : Nat) : Wd := byW p (4 * i) <<< 24 ||| byW p (4 * i + 1) <<< 16 ||| byW p (4 * i + 2) <<< 8 ||| byW p (4 * i + 3)
def nextW (p : List UInt8) (l : List Wd) : Wd :=
  if l.length < 16 then word4 p l.length
  else l.getD (l.length - 16) 0 + sg0 (l.getD (l.length - 15) 0) + l.getD (l.length - 7) 0 + sg1 (l.getD (l.length - 2) 0)
def wds (p : List UInt8) : Nat → List Wd
  | 0 => []
  | k + 1 => wds p k ++ [nextW p (wds p k)]
def wdAt (p : List UInt8) (i : Nat) : Wd := nextW p (wds p i)
def S8.rnd (s : S8) (k w : Wd) : S8 :=
  let t := s.h + (rotr s.e 6 ^^^ rotr s.e 11 ^^^ rotr s.e 25) + (s.e &&& s.f ^^^ ~~~s.e &&& s.g) + k + w
  let u := (rotr s.a 2 ^^^ rotr s.a 13 ^^^ rotr s.a 22) + (s.a &&& s.b ^^^ s.a &&& s.c ^^^ s.b &&& s.c)
  ⟨t + u, s.a, s.b, s.c, s.d + t, s.e, s.f, s.g⟩
def rnds (s : S8) (p : List UInt8) : Nat → S8
  | 0 => s
  | i + 1 => (rnds s p i).rnd (kT.getD i 0) (wdAt p i)
def S8.add (s r : S8) : S8 := ⟨s.a + r.a, s.b + r.b, s.c + r.c, s.d + r.d, s.e + r.e, s.f + r.f, s.g + r.g, s.h + r.h⟩
def S8.turn (s : S8) (p : List UInt8) : S8 := (rnds s p 64).add s
def noughts (n : Nat) : Nat := (119 - n % 64) % 64
def filled (b : List UInt8) : List UInt8 := b ++ 128 :: (List.replicate (noughts b.length) 0 ++ numB (8 * b.length) 8)
def cut64 (l : List UInt8) (k : Nat) : List UInt8 := (l.drop (64 * k)).take 64
def pieces (b : List UInt8) : List (List UInt8) := (List.range ((filled b).length / 64)).map (cut64 (filled b))
def sumS (b : List UInt8) : S8 := (pieces b).foldl S8.turn S8.start
def wBytes (x : Wd) : List UInt8 := [24, 16, 8, 0].map fun s => UInt8.ofNat (x >>> s).toNat
def S8.bytes (s : S8) : List UInt8 := s.list.flatMap wBytes
def sumB (b : List UInt8) : List UInt8 := (sumS b).bytes
theorem wds_length (p : List UInt8) (k : Nat) : (wds p k).length = k := by
  induction k with
  | zero => rfl
  | succ k ih => simp [wds, ih]
theorem wds_get (p : List UInt8) {k j : Nat} (h : j < k) : (wds p k).getD j 0 = wdAt p j := by
  induction k with
  | zero => omega
  | succ k ih =>
    rw [wds]
    by_cases e : j = k
    · subst e
      simp [List.getD, wds_length, wdAt]
    · rw [← ih (by omega)]
      simp only [List.getD]
      rw [List.getElem?_append_left (by rw [wds_length]; omega)]
theorem wdAt_lo (p : List UInt8) {i : Nat} (h : i < 16) : wdAt p i = word4 p i := by
  unfold wdAt nextW
  rw [wds_length, if_pos h]
theorem wdAt_hi (p : List UInt8) {i : Nat} (h : 16 ≤ i) : wdAt p i = wdAt p (i - 16) + sg0 (wdAt p (i - 15)) + wdAt p (i - 7) + sg1 (wdAt p (i - 2)) := by
  have h0 : wdAt p i = nextW p (wds p i) := rfl
  rw [h0, nextW, wds_length, if_neg (by omega), wds_get p (by omega), wds_get p (by omega), wds_get p (by omega), wds_get p (by omega)]
theorem noughts_mod (n : Nat) : (n + 1 + noughts n) % 64 = 56 := by unfold noughts; omega
theorem length_filled (b : List UInt8) : (filled b).length = b.length + 9 + noughts b.length := by
  unfold filled
  simp [length_numB]; omega
theorem filled_mod (b : List UInt8) : (filled b).length % 64 = 0 := by
  have := noughts_mod b.length
  rw [length_filled]; omega
def wI (x : Wd) : Int := (x.toNat : Int)
def wordsV (l : List Wd) : List Value := l.map fun x => .int .u32 (wI x)
end Go.Proofs.YtmdfbdfijnmhkaaGreat
namespace Go.Proofs.YtmdfbdfijnmhkaaGreat
set_option linter.unusedVariables false
set_option linter.unusedSimpArgs false
open Hp
def addrB (l : List (Int × Int)) (i : Nat) : List UInt8 := numB (l.getD i (0, 0)).1 1 ++ numB (l.getD i (0, 0)).2 2
def addrsB (l : List (Int × Int)) : Nat → List UInt8
  | 0 => []
  | k + 1 => addrsB l k ++ addrB l k
def bytesP (l : List (Int × Int)) (b v : Int) (S : List UInt8) : List UInt8 := numB l.length 1 ++ addrsB l 3 ++ numB b 4 ++ numB v 1 ++ S
end Go.Proofs.YtmdfbdfijnmhkaaGreat
namespace Go.Proofs.YtmdfbdfijnmhkaaGreat
set_option linter.unusedVariables false
set_option linter.unusedSimpArgs false
open Hp
def rA (bs : List UInt8) (i : Nat) : Int × Int := (beN ((bs.drop (1 + 3 * i)).take 1), beN ((bs.drop (2 + 3 * i)).take 2))
def rAddrs (bs : List UInt8) : Nat → List (Int × Int)
  | 0 => []
  | k + 1 => rAddrs bs k ++ (if k < beN (bs.take 1) then [rA bs k] else [])
def rBirth (bs : List UInt8) : Nat := beN ((bs.drop 10).take 4)
def rLevel (bs : List UInt8) : Nat := beN ((bs.drop 14).take 1)
def rSum (bs : List UInt8) : List UInt8 := bs.drop 15
def rOK (bs : List UInt8) : Bool := decide (bs.length = 47) && (checkB (rAddrs bs 3) (rBirth bs) (rLevel bs) (rSum bs) && (bytesP (rAddrs bs 3) (rBirth bs) (rLevel bs) (rSum bs) == bs))
def rErr (bs : List UInt8) : Int := if bs.length = 47 then 2 else 4
def rAt (bs : List UInt8) : Int := if bs.length = 47 then 0 else if bs.length < 47 then bs.length else 47
def readEnd (bs : List UInt8) (w : World) (T E : TypeId) (e : Ending) (w' : World) : Prop :=
  if rOK bs then ∃ ao n c, e = .returned (.agg (ptrCells (.slice ao n c) (rBirth bs) (rLevel bs) (rSum bs)).toArray) ∧ St w [] w' [.row (.slice ao n c) E 2 n (addrsV (rAddrs bs 3))] ∧ (rAddrs bs 3).length = n
  else e = .panicked [{ v := .iface T (.agg #[.int .i64 (rErr bs), .int .i64 (rAt bs)]), recovered := false }] ∧ St w [] w' []
theorem St.nilRow {w0 w : World} {M : List Nat} {L : List HA} (T : TypeId) (sz : Nat) (h : St w0 M w L) : St w0 M w (.row (.slice none 0 0) T sz 0 [] :: L) := by
  refine ⟨h.os, h.tape, h.output, h.size, h.old, fun x hx => ?_, fun x hx k hk => ?_, ?_⟩
  · rcases List.mem_cons.1 hx with rfl | hx
    · exact ⟨by simp, .inl ⟨rfl, rfl⟩⟩
    · exact h.all x hx
  · rcases List.mem_cons.1 hx with rfl | hx
    · cases hk
    · exact h.own x hx k hk
  · refine List.Pairwise.cons (fun y _ k hk => ?_) h.apart
    cases hk
theorem St.rowSlice {w0 w : World} {M : List Nat} {L : List HA} {v : Value} {T : TypeId} {sz n : Nat} {xs : List Value} (h : St w0 M w L) (hm : HA.row v T sz n xs ∈ L) : ∃ ao c, v = .slice ao n c := by
  have := h.owns hm
  rcases this.2 with ⟨rfl, rfl⟩ | ⟨g, cap, cur, rfl, _⟩
  · exact ⟨none, 0, rfl⟩
  · exact ⟨_, _, rfl⟩
theorem St.rowSliceAt {w0 w : World} {M : List Nat} (L1 : List HA) {L2 : List HA} {v : Value} {T : TypeId} {sz n : Nat} {xs : List Value} (h : St w0 M w (L1 ++ .row v T sz n xs :: L2)) : ∃ ao c, v = .slice ao n c :=
  St.rowSlice h (T := T) (sz := sz) (xs := xs) (by simp)
theorem ptr_ones (ao : Option Addr) (n c : Nat) (b l : Int) (S : List UInt8) : (ptrCells (.slice ao n c) b l S).all (·.oneCell') = true := by
  show (true && (true && (true && (bytesV S).all (·.oneCell')))) = true
  rw [ones_bytesV]; rfl
def readOut (bs : List UInt8) (w : World) (E : TypeId) (e : Ending) (w' : World) : Prop :=
  if rOK bs then ∃ ao n c, e = .returned (.tuple #[.agg (ptrCells (.slice ao n c) (rBirth bs) (rLevel bs) (rSum bs)).toArray, .agg #[.int .i64 0, .int .i64 0]]) ∧ St w [] w' [.row (.slice ao n c) E 2 n (addrsV (rAddrs bs 3))] ∧ (rAddrs bs 3).length = n
  else e = .returned (.tuple #[.agg (ptrCells (.slice none 0 0) 0 0 nones).toArray, .agg #[.int .i64 (rErr bs), .int .i64 (rAt bs)]]) ∧ St w [] w' []
theorem readEnd.ok {bs : List UInt8} {w w' : World} {T E : TypeId} {e : Ending} (h : rOK bs = true) (hr : readEnd bs w T E e w') : ∃ ao n c, e = .returned (.agg (ptrCells (.slice ao n c) (rBirth bs) (rLevel bs) (rSum bs)).toArray) ∧ St w [] w' [.row (.slice ao n c) E 2 n (addrsV (rAddrs bs 3))] ∧ (rAddrs bs 3).length = n := by
  unfold readEnd at hr; rwa [if_pos h] at hr
theorem readOut.ok {bs : List UInt8} {w w' : World} {E : TypeId} {e : Ending} (h : rOK bs = true) (hr : readOut bs w E e w') : ∃ ao n c, e = .returned (.tuple #[.agg (ptrCells (.slice ao n c) (rBirth bs) (rLevel bs) (rSum bs)).toArray, .agg #[.int .i64 0, .int .i64 0]]) ∧ St w [] w' [.row (.slice ao n c) E 2 n (addrsV (rAddrs bs 3))] ∧ (rAddrs bs 3).length = n := by
  unfold readOut at hr; rwa [if_pos h] at hr
end Go.Proofs.YtmdfbdfijnmhkaaGreat
namespace Go.Proofs.YtmdfbdfijnmhkaaGreat
set_option linter.unusedVariables false
set_option linter.unusedSimpArgs false
open Hp
section
variable {l : List (Int × Int)} {b v : Int} {S : List UInt8}
end
end Go.Proofs.YtmdfbdfijnmhkaaGreat
namespace Go.Proofs.YtmdfbdfijnmhkaaGreat
set_option linter.unusedVariables false
set_option linter.unusedSimpArgs false
open Hp
end Go.Proofs.YtmdfbdfijnmhkaaGreat
namespace Go.Proofs.YtmdfbdfijnmhkaaGreat
set_option linter.unusedVariables false
set_option linter.unusedSimpArgs false
open Go.RowKit Hp
structure PV where
  sv : Value
  l : List (Int × Int)
  b : Int
  v : Int
  S : List UInt8
def PV.cells (p : PV) : List Value := ptrCells p.sv p.b p.v p.S
def PV.In (w : World) (p : PV) : Prop := L32 p.S ∧ ∃ ao n c, p.sv = .slice ao n c ∧ Rd w (.slice ao n c) 2 n (addrsV p.l) ∧ p.l.length = n
def PV.hole (p : PV) : Bool := holeB p.l.length p.b p.v p.S
def PV.ok (p : PV) : Bool := checkB p.l p.b p.v p.S
def PV.same (p q : PV) : Bool := sameB p.l q.l p.b p.v q.b q.v p.S q.S
def PV.bytes (p : PV) : List UInt8 := bytesP p.l p.b p.v p.S
def PV.fits (p : PV) (lv : Int) : Bool := p.hole || (p.ok && decide (p.v = lv - 1))
theorem PV.In.old {w0 w : World} {L : List HA} {p : PV} (hst : St w0 [] w L) (h : p.In w0) : p.In w := by
  obtain ⟨h1, ao, n, c, h2, h3, h4⟩ := h
  exact ⟨h1, ao, n, c, h2, Rd.old hst h3, h4⟩
theorem PV.len {p : PV} (h : L32 p.S) : p.cells.length = 35 := ptr_len h _ _ _
structure NV where
  lv : Int
  p0 : PV
  p1 : PV
  p2 : PV
  p3 : PV
def NV.get (x : NV) : Nat → PV
  | 0 => x.p0
  | 1 => x.p1
  | 2 => x.p2
  | _ => x.p3
def NV.cells (x : NV) : List Value := .int .i64 x.lv :: (x.p0.cells ++ (x.p1.cells ++ (x.p2.cells ++ x.p3.cells)))
def NV.In (w : World) (x : NV) : Prop := ∀ k, (x.get k).In w
theorem NV.In.old {w0 w : World} {L : List HA} {x : NV} (hst : St w0 [] w L) (h : x.In w0) : x.In w := fun k => (h k).old hst
def NV.Ln (x : NV) : Prop := ∀ k, L32 (x.get k).S
theorem NV.len {x : NV} (h : x.Ln) : x.cells.length = 141 := by
  have h0 := PV.len (h 0)
  have h1 := PV.len (h 1)
  have h2 := PV.len (h 2)
  have h3 := PV.len (h 3)
  simp only [NV.get] at h0 h1 h2 h3
  simp [NV.cells, h0, h1, h2, h3]
theorem NV.at {x : NV} (h : x.Ln) {k : Nat} (hk : k < 4) : (x.cells.drop (1 + 35 * k)).take (x.get k).cells.length = (x.get k).cells := by
  have h0 : x.p0.cells.length = 35 := PV.len (h 0)
  have h1 : x.p1.cells.length = 35 := PV.len (h 1)
  have h2 : x.p2.cells.length = 35 := PV.len (h 2)
  have h3 : x.p3.cells.length = 35 := PV.len (h 3)
  unfold NV.cells
  obtain rfl | rfl | rfl | rfl : k = 0 ∨ k = 1 ∨ k = 2 ∨ k = 3 := by omega
  · simp only [NV.get, Nat.mul_zero, Nat.add_zero, List.drop_succ_cons, List.drop_zero]
    rw [List.take_left' rfl]
  · rw [show 1 + 35 * 1 = 35 + 1 from rfl, List.drop_succ_cons, List.drop_append_of_le_length (by omega), List.drop_of_length_le (by omega), List.nil_append]
    exact List.take_left' rfl
  · rw [show 1 + 35 * 2 = (35 + 35) + 1 from rfl, List.drop_succ_cons, ← List.drop_drop, List.drop_append_of_le_length (by omega), List.drop_of_length_le (l := x.p0.cells) (by omega), List.nil_append, List.drop_append_of_le_length (by omega), List.drop_of_length_le (l := x.p1.cells) (by omega), List.nil_append]
    exact List.take_left' rfl
  · rw [show 1 + 35 * 3 = (35 + (35 + 35)) + 1 from rfl, List.drop_succ_cons, ← List.drop_drop, List.drop_append_of_le_length (by omega), List.drop_of_length_le (l := x.p0.cells) (by omega), List.nil_append, show (70 : Nat) = 35 + 35 from rfl, ← List.drop_drop, List.drop_append_of_le_length (by omega), List.drop_of_length_le (l := x.p1.cells) (by omega), List.nil_append, List.drop_append_of_le_length (by omega), List.drop_of_length_le (l := x.p2.cells) (by omega), List.nil_append]
    exact List.take_of_length_le (Nat.le_refl _)
theorem NV.all (x : NV) : (x.cells.drop 0).take x.cells.length = x.cells := by simp
def NV.fitsAll (x : NV) : Bool := x.p0.fits x.lv && (x.p1.fits x.lv && (x.p2.fits x.lv && x.p3.fits x.lv))
def NV.ok (x : NV) : Bool := decide (1 ≤ x.lv ∧ x.lv ≤ 3) && x.fitsAll
def NV.empty (x : NV) : Bool := x.p0.hole && (x.p1.hole && (x.p2.hole && x.p3.hole))
def NV.same (x y : NV) : Bool := x.p0.same y.p0 && (x.p1.same y.p1 && (x.p2.same y.p2 && (x.p3.same y.p3 && decide (x.lv = y.lv))))
end Go.Proofs.YtmdfbdfijnmhkaaGreat
namespace Go.Proofs.YtmdfbdfijnmhkaaGreat
set_option linter.unusedVariables false
set_option linter.unusedSimpArgs false
open Go.RowKit Hp
structure ER where
  rd : Int
  sm : Int
  he : Int
def fRd (e : ER) : ER := { e with rd := e.rd + 1 }
def fSm (e : ER) : ER := { e with sm := e.sm + 1 }
def fHe (e : ER) : ER := { e with he := e.he + 1 }
structure MV where
  a : AR
  e : List ER
def MV.er (m : MV) (dev : Int) : ER := m.e.getD dev.toNat ⟨0, 0, 0⟩
def MV.kind (m : MV) (dev pl : Int) (S : List UInt8) : Int :=
  if m.a.readE dev pl = 10 then 3 else if m.a.readE dev pl ≠ 0 then 2 else if sumB (m.a.readB dev pl) = S then 0 else 1
def MV.lookB (m : MV) (dev pl : Int) (S : List UInt8) : List UInt8 := if m.kind dev pl S = 0 then m.a.readB dev pl else []
def MV.looked (m : MV) (dev pl : Int) (S : List UInt8) : MV :=
  ⟨m.a.read dev pl, if m.a.readE dev pl = 13 then m.e.modify dev.toNat fRd else if m.kind dev pl S = 1 then m.e.modify dev.toNat fSm else m.e⟩
def MV.healed (m : MV) (dev pl : Int) (b : List UInt8) : MV := ⟨m.a.write dev pl b, if m.a.writeE dev pl b = 0 then m.e.modify dev.toNat fHe else m.e⟩
def MV.heals (m : MV) (l : List (Int × Int)) (b : List UInt8) : MV := l.foldl (fun m x => m.healed x.1 x.2 b) m
structure FR where
  er : Int
  b : List UInt8
  ill : List (Int × Int)
  m : MV
def found (S : List UInt8) (but : Int) : MV → List (Int × Int) → List (Int × Int) → FR
  | m, [], ill => ⟨if ill = [] then 13 else 12, [], [], m⟩
  | m, x :: l, ill =>
    if x.1 = but then found S but m l ill
    else if m.kind x.1 x.2 S = 0 then ⟨0, m.lookB x.1 x.2 S, ill, m.looked x.1 x.2 S⟩
    else if m.kind x.1 x.2 S = 1 then found S but (m.looked x.1 x.2 S) l (ill ++ [x])
    else if m.kind x.1 x.2 S = 3 then ⟨10, [], [], m.looked x.1 x.2 S⟩
    else found S but (m.looked x.1 x.2 S) l ill
def MV.lies (m : MV) (l : List (Int × Int)) : Bool := l.all fun x => m.a.inS x.1 x.2 && decide (5 ≤ x.2)
def MV.askE (m : MV) (p : PV) : Int := if (p.ok && !p.hole) && m.lies p.l then 0 else 2
structure GR where
  er : Int
  b : List UInt8
  m : MV
def MV.get (m : MV) (p : PV) : GR :=
  if m.askE p ≠ 0 then ⟨m.askE p, [], m⟩
  else if (found p.S (-1) m p.l []).er ≠ 0 then ⟨(found p.S (-1) m p.l []).er, [], (found p.S (-1) m p.l []).m⟩
  else ⟨0, (found p.S (-1) m p.l []).b, (found p.S (-1) m p.l []).m.heals (found p.S (-1) m p.l []).ill (found p.S (-1) m p.l []).b⟩
structure CR where
  good : Nat
  lost : Nat
  ill : List (Int × Int)
  b : List UInt8
  m : MV
  out : Bool
def CR.next (S : List UInt8) (c : CR) (x : Int × Int) : CR :=
  if c.out then c
  else if c.m.kind x.1 x.2 S = 0 then { c with good := c.good + 1, b := if c.good = 0 then c.m.lookB x.1 x.2 S else c.b, m := c.m.looked x.1 x.2 S }
  else if c.m.kind x.1 x.2 S = 1 then { c with ill := c.ill ++ [x], m := c.m.looked x.1 x.2 S }
  else if c.m.kind x.1 x.2 S = 2 then { c with lost := c.lost + 1, m := c.m.looked x.1 x.2 S }
  else { c with m := c.m.looked x.1 x.2 S, out := true }
structure HR where
  he : Nat
  bad : Nat
  m : MV
def HR.next (any : Bool) (b : List UInt8) (h : HR) (x : Int × Int) : HR :=
  if any && (h.m.a.writeE x.1 x.2 b == 0) then ⟨h.he + 1, h.bad, h.m.healed x.1 x.2 b⟩ else ⟨h.he, h.bad + 1, if any then h.m.healed x.1 x.2 b else h.m⟩
structure SR where
  er : Int
  good : Nat
  he : Nat
  bad : Nat
  lost : Nat
  m : MV
structure NR where
  er : Int
  n : Nat
  a : AR
def some16 (n : Nat) (a : AR) : NR := if n = 0 then ⟨13, 0, a⟩ else ⟨0, n, a⟩
def wrote16 (b : List UInt8) : AR → Nat → List (Int × Int) → NR
  | a, n, [] => some16 n a
  | a, n, x :: l =>
    if a.writeE x.1 x.2 b = 0 then wrote16 b (a.write x.1 x.2 b) (n + 1) l
    else if a.writeE x.1 x.2 b = 10 then ⟨10, 0, a.write x.1 x.2 b⟩
    else wrote16 b (a.write x.1 x.2 b) n l
def apartB : List (Int × Int) → Bool
  | [] => true
  | x :: l => l.all (fun y => y.1 != x.1) && apartB l
def MV.putOk (m : MV) (l : List (Int × Int)) (b : List UInt8) : Bool := (decide (b.length = 256) && decide (1 ≤ l.length ∧ l.length ≤ 3)) && (m.lies l && apartB l)
def MV.put (m : MV) (l : List (Int × Int)) (b : List UInt8) : NR := if m.putOk l b then wrote16 b m.a 0 l else ⟨2, 0, m.a⟩
def flushed16 (d : Nat) : Nat → AR → Nat → NR
  | 0, a, n => some16 n a
  | k + 1, a, n =>
    if a.up ((d - (k + 1) : Nat) : Int) = false then flushed16 d k a n
    else if a.flushE ((d - (k + 1) : Nat) : Int) = 0 then flushed16 d k (a.flush ((d - (k + 1) : Nat) : Int)) (n + 1)
    else if a.flushE ((d - (k + 1) : Nat) : Int) = 10 then ⟨10, 0, a.flush ((d - (k + 1) : Nat) : Int)⟩
    else flushed16 d k (a.flush ((d - (k + 1) : Nat) : Int)) n
def MV.flush (m : MV) : NR := if m.a.out then ⟨10, 0, m.a⟩ else flushed16 m.a.devs.length m.a.devs.length m.a 0
def MV.errs (m : MV) (dev : Int) : ER := if m.a.inD dev then m.er dev else ⟨0, 0, 0⟩
structure MGood (m : MV) (N : Nat) : Prop where
  sc : Sc m.a N
  el : m.e.length = 8
  en : ∀ e ∈ m.e, 0 ≤ e.rd ∧ e.rd ≤ N ∧ 0 ≤ e.sm ∧ e.sm ≤ N ∧ 0 ≤ e.he ∧ e.he ≤ N
theorem MGood.mono {m : MV} {N K : Nat} (h : MGood m N) (hk : N ≤ K) : MGood m K :=
  ⟨⟨h.sc.ok, h.sc.sec, ⟨h.sc.st.1, by have := h.sc.st.2; omega⟩, by have := h.sc.ll; omega⟩, h.el, fun e he => by have := h.en e he; omega⟩
theorem MGood.arr {m : MV} {N : Nat} {a : AR} (h : MGood m N) (ok : a.Ok) (hs : Stays m.a a) : MGood { m with a := a } (N + 1) :=
  ⟨h.sc.next ok hs, h.el, fun e he => by have := h.en e he; omega⟩
theorem MGood.up {m : MV} {N : Nat} {a : AR} {f : ER → ER} (h : MGood m N) (ok : a.Ok) (hs : Stays m.a a) (k : Nat) (hf : ∀ e : ER, (f e).rd = e.rd ∧ (f e).sm = e.sm ∧ (f e).he = e.he ∨ (f e).rd = e.rd + 1 ∧ (f e).sm = e.sm ∧ (f e).he = e.he ∨ (f e).rd = e.rd ∧ (f e).sm = e.sm + 1 ∧ (f e).he = e.he ∨ (f e).rd = e.rd ∧ (f e).sm = e.sm ∧ (f e).he = e.he + 1) : MGood ⟨a, m.e.modify k f⟩ (N + 1) := by
  refine ⟨h.sc.next ok hs, by show (m.e.modify k f).length = 8; rw [List.length_modify]; exact h.el, fun e he => ?_⟩
  obtain ⟨j, hj⟩ := List.getElem?_of_mem he
  have hj' : (m.e.modify k f)[j]? = some e := hj
  rw [List.getElem?_modify] at hj'
  cases hq : m.e[j]? with
  | none => rw [hq] at hj'; simp at hj'
  | some y =>
    have hy := h.en y (List.mem_of_getElem? hq)
    rw [hq] at hj'
    have hfy := hf y
    by_cases hkj : k = j
    · simp [hkj] at hj'
      rw [← hj']
      omega
    · simp [hkj] at hj'
      rw [← hj']
      omega
theorem MGood.looked {m : MV} {N : Nat} (h : MGood m N) (dev pl : Int) (S : List UInt8) : MGood (m.looked dev pl S) (N + 1) := by
  unfold MV.looked
  split
  · exact h.up (h.sc.ok.read _ _) (Stays.read _ _ _) _ fun e => .inr (.inl ⟨rfl, rfl, rfl⟩)
  · split
    · exact h.up (h.sc.ok.read _ _) (Stays.read _ _ _) _ fun e => .inr (.inr (.inl ⟨rfl, rfl, rfl⟩))
    · exact h.arr (h.sc.ok.read _ _) (Stays.read _ _ _)
theorem MGood.healed {m : MV} {N : Nat} (h : MGood m N) (dev pl : Int) (b : List UInt8) : MGood (m.healed dev pl b) (N + 1) := by
  unfold MV.healed
  split
  · exact h.up (h.sc.ok.write _ _ _) (Stays.write _ _ _ _) _ fun e => .inr (.inr (.inr ⟨rfl, rfl, rfl⟩))
  · exact h.arr (h.sc.ok.write _ _ _) (Stays.write _ _ _ _)
theorem MGood.heals {b : List UInt8} : ∀ {l : List (Int × Int)} {m : MV} {N : Nat}, MGood m N → MGood (m.heals l b) (N + l.length)
  | [], _, _, h => h
  | x :: l, m, N, h => by
    have := MGood.heals (b := b) (l := l) (h.healed x.1 x.2 b)
    rw [List.length_cons, show N + (l.length + 1) = N + 1 + l.length by omega]
    exact this
end Go.Proofs.YtmdfbdfijnmhkaaGreat
namespace Go.Proofs.YtmdfbdfijnmhkaaGreat
set_option linter.unusedVariables false
set_option linter.unusedSimpArgs false
open Hp
instance tyS3 : TyS Tryz.prog 3 := ⟨by kernel_rfl⟩
instance tyS4 : TyS Tryz.prog 4 := ⟨by kernel_rfl⟩
instance tyS5 : TyS Tryz.prog 5 := ⟨by kernel_rfl⟩
instance tyS22 : TyS Tryz.prog 28 := ⟨by kernel_rfl⟩
instance tyI3 : TyI Tryz.prog 3 .i64 := ⟨by kernel_rfl⟩
instance tyI5 : TyI Tryz.prog 5 .u8 := ⟨by kernel_rfl⟩
instance tyStr9 : TyStr Tryz.prog 9 := ⟨by kernel_rfl⟩
instance tySl22 : TySl Tryz.prog 28 5 := ⟨by kernel_rfl⟩
instance tyE5 : TyE Tryz.prog 5 1 1 := ⟨by kernel_rfl⟩
instance tyE3 : TyE Tryz.prog 3 1 8 := ⟨by kernel_rfl⟩
instance tyN3 : TyN Tryz.prog 3 1 := ⟨by kernel_rfl⟩
instance tyN4 : TyN Tryz.prog 4 1 := ⟨by kernel_rfl⟩
instance tyN5 : TyN Tryz.prog 5 1 := ⟨by kernel_rfl⟩
instance tyN22 : TyN Tryz.prog 28 1 := ⟨by kernel_rfl⟩
instance tyS25 : TyS Tryz.prog 30 := ⟨by kernel_rfl⟩
instance tyN25 : TyN Tryz.prog 30 1 := ⟨by kernel_rfl⟩
instance tySl25 : TySl Tryz.prog 30 83 := ⟨by kernel_rfl⟩
instance tyA42 : TyA Tryz.prog 83 2 := ⟨by kernel_rfl⟩
instance tyN42 : TyN Tryz.prog 83 2 := ⟨by kernel_rfl⟩
instance tyE42 : TyE Tryz.prog 83 2 16 := ⟨by kernel_rfl⟩
instance tyZ42 : TyZ Tryz.prog 83 [.int .i64 0, .int .i64 0] := ⟨by kernel_rfl⟩
instance tyZ62 : TyZ Tryz.prog 204 (List.replicate 8 (.bool false)) := ⟨by kernel_rfl⟩
instance tyA27 : TyA Tryz.prog 32 32 := ⟨by kernel_rfl⟩
instance tyA29 : TyA Tryz.prog 34 35 := ⟨by kernel_rfl⟩
instance tyN29 : TyN Tryz.prog 34 35 := ⟨by kernel_rfl⟩
instance tyS30 : TyS Tryz.prog 37 := ⟨by kernel_rfl⟩
instance tyN30 : TyN Tryz.prog 37 1 := ⟨by kernel_rfl⟩
instance tyArr27 : TyArr Tryz.prog 32 32 5 := ⟨by kernel_rfl, by kernel_rfl, by kernel_rfl, by kernel_rfl⟩
instance tyB27 : TyB Tryz.prog 32 (bytesV nones) := ⟨by kernel_rfl⟩
instance tyZ29 : TyZ Tryz.prog 34 (ptrCells (.slice none 0 0) 0 0 nones) := ⟨by kernel_rfl⟩
instance tyB29 : TyB Tryz.prog 34 (ptrCells (.slice none 0 0) 0 0 nones) := ⟨by kernel_rfl⟩
instance tyP42 : TyP2 Tryz.prog 83 := ⟨by kernel_rfl⟩
@[go_sem ↓] theorem eqlAddr (a b c d : Int) (w : World) : (binOp .eql 83 (.agg #[.int .i64 a, .int .i64 b]) (.agg #[.int .i64 c, .int .i64 d])).run Tryz.prog w = .ok (.bool ((a == c) && (b == d))) w := run_eql_p2 tyP42 a b c d _ _ w
@[go_sem ↓] theorem neqAddr (a b c d : Int) (w : World) : (binOp .neq 83 (.agg #[.int .i64 a, .int .i64 b]) (.agg #[.int .i64 c, .int .i64 d])).run Tryz.prog w = .ok (.bool (!((a == c) && (b == d)))) w := run_neq_p2 tyP42 a b c d _ _ w
@[go_sem ↓] theorem guardAddr (op : BinOp) (x y : Operand) (xs ys : Array Value) (w : World) : (eqGuard op 83 x y (.agg xs) (.agg ys)).run Tryz.prog w = .ok () w := run_guard_p2 tyP42 op x y xs ys w
instance tyZ5 : TyZ Tryz.prog 5 [.int .u8 0] := ⟨by kernel_rfl⟩
end Go.Proofs.YtmdfbdfijnmhkaaGreat
namespace Go.Proofs.YtmdfbdfijnmhkaaGreat
set_option linter.unusedVariables false
set_option linter.unusedSimpArgs false
open Go.RowKit
namespace Hp
variable {P : Program} {md : Region.Mode} {ops : Array Oper} {Q : Exit → Act → World → Prop} {S : World → Prop}
end Hp
end Go.Proofs.YtmdfbdfijnmhkaaGreat
