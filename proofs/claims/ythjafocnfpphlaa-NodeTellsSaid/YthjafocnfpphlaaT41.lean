import Derived.Test.YthjafocnfpphlaaT40
import Derived.Test.YthjafocnfpphlaaT33
namespace Go.Proofs.Ythjafocnfpphlaa
open Go.RowKit Hp
attribute [local irreducible] Go.Calls
set_option maxHeartbeats 4000000
set_option maxRecDepth 100000
theorem copyNode_any (x : NV) (w : World) (hx : x.In w) (hlen : ∀ k, k < 4 → (x.get k).l.length ≤ 100000) : Calls Try.prog 39 #[.agg x.cells.toArray] w (ownOut x w 42) := by
  have hst := St.refl w
  have hL := hx.ln
  have Hlen := hid hlen
  clear hlen
  go_enter Try.func39, Try.ntmps39
  go_wp2_with (first | go_big_skip | go_big_guard | (refine wl_boxA hst rfl rfl rfl ?_; intro g w1 hst1; clear hst) | (refine wl_alloc hst1 rfl rfl ?_; intro gn w2 hst2; clear hst1))
  have hst3 : St w [] w2 (.blk gn 51 (zN 0).cells :: .blk g 51 x.cells :: []) := hst2
  clear hst2
  go_loopw [3] (fun i wr => ∃ k : Nat, k ≤ 4 ∧ i = .int .i64 k ∧ ∃ (y : NV) (R : List HA), Hid (y.lv = x.lv) ∧ Hid (y.isO 42 x R k) ∧ Hid (∀ j, k ≤ j → j < 4 → y.get j = x.get j) ∧ Hid y.Ln ∧ St w [] wr (.blk gn 51 (zN 0).cells :: .blk g 51 y.cells :: R)) (fun i _ => 4 - (intOf i).toNat)
  case atStart => exact ⟨0, by omega, rfl, x, [], hid rfl, hid (fun j h => absurd h (by omega)), hid (fun j _ _ => rfl), hid hL, hst3⟩
  case round =>
    clear hst3
    obtain ⟨k, hk, rfl, y, R, hlv, hO, hz, hLy, hst⟩ := hrel
    by_cases hk4 : k < 4
    · have eg := hid (hz.out k (Nat.le_refl _) hk4)
      have hS : L32 (x.get k).S := hL k
      have hat := hid (show (y.cells.drop (1 + k * 35)).take (x.get k).cells.length = (x.get k).cells by have := NV.at' hLy.out hk4; rwa [eg.out] at this)
      go_wp2_with (first | go_big_skip | go_big_guard | (refine wl_loadE rfl rfl rfl ?_; first | refine ⟨_, Loads.atA ((x.get k).cells) [_] hst (PV.len hS) (hat.out), ?_⟩) | (go_at_call 24; refine (copyPtr_any (x.get k) _ (PV.In.old hst (hx k)) (Hlen.out k hk4)).mono ?_; rintro _ _ ⟨ao9, n, c9, rfl, h4, hl4⟩; have H4 := hid hl4; have hst9 := St.call hst h4; clear h4 hl4 hst) | (refine wl_store [_, _] hst9 rfl rfl rfl (v := .agg (PV.cells ((x.get k).re (.slice ao9 n c9))).toArray) (off := 1 + k * 35) (n := 35) rfl (PV.len (p := (x.get k).re (.slice ao9 n c9)) hS) (PV.ones_of (p := (x.get k).re (.slice ao9 n c9)) rfl) (fit_p (p := (x.get k).re (.slice ao9 n c9)) hLy.out hS hk4) ?_; intro w10 hst10; clear hst9; replace hst10 := setP_st (p := (x.get k).re (.slice ao9 n c9)) hLy.out hS hk4 hst10))
      obtain ⟨p, hp⟩ : ∃ p : PV, p = (x.get k).re (.slice ao9 n c9) := ⟨_, rfl⟩
      have hpl : p.l = (x.get k).l := by rw [hp]
      have hst11 : St w [] w10 (.row (.slice ao9 n c9) 42 2 n (addrsV p.l) :: .blk gn 51 (zN 0).cells :: .blk g 51 (y.set k p).cells :: R) := by
        rw [hpl, hp]; exact hst10
      have hst12 : St w [] w10 (.blk gn 51 (zN 0).cells :: .blk g 51 (y.set k p).cells :: .row (.slice ao9 n c9) 42 2 n (addrsV p.l) :: R) := hst11.perm ((List.Perm.swap _ _ _).trans (List.Perm.cons _ (List.Perm.swap _ _ _)))
      clear hst10 hst11
      have HO2 := hid (show (y.set k p).isO 42 x (.row (.slice ao9 n c9) 42 2 n (addrsV p.l) :: R) (k + 1) from by
        intro j hj
        by_cases e : j = k
        · subst e
          rw [NV.get_set_same y hk4]
          exact ⟨by rw [hp]; exact ⟨rfl, rfl, rfl, rfl⟩, ao9, n, c9, by rw [hp], .head _, by rw [hpl]; exact H4.out⟩
        · rw [NV.get_set_other y hk4 (by omega) e]
          obtain ⟨q1, ao, n, c, q2, q3, q4⟩ := hO.out j (by omega)
          exact ⟨q1, ao, n, c, q2, .tail _ q3, q4⟩)
      have Hz2 := hid (show ∀ j, k + 1 ≤ j → j < 4 → (y.set k p).get j = x.get j from fun j h1 h2 => by rw [NV.get_set_other y hk4 h2 (by omega)]; exact hz.out j (by omega) h2)
      have Hlv2 := hid (show (y.set k p).lv = x.lv by rw [NV.lv_set]; exact hlv.out)
      have HLy2 := hid (show (y.set k p).Ln from fun j => set_ln hLy.out hk4 (by rw [hp]; exact hS) j)
      clear hp hpl
      go_roundw
      case rel => exact ⟨k + 1, by omega, by go_num, y.set k p, _, Hlv2, HO2, Hz2, HLy2, hst12⟩
      case measure => simp [intOf]; omega
    · have ek : k = 4 := by omega
      subst ek
      have hz4 := hid (NV.isO.ones hO.out hlv.out)
      clear hz hk hk4
      go_wp2_with (first | go_big_skip | go_big_guard | (refine wl_loadE rfl rfl rfl ?_; first | refine ⟨_, Loads.atA (y.cells) [_] hst (NV.len hLy.out) (NV.all y), ?_⟩) | (refine wl_storeA [] hst rfl rfl rfl rfl (NV.len hLy.out) hz4.out (NV.len (zN_ln 0)) ?_; intro w10 hst10; clear hst))
      have hl := Loads.atA (P := Try.prog) (off := 0) (T := 51) y.cells [] hst10 (NV.len hLy.out) (NV.all _)
      refine bodyPost_ret (results_cellL rfl rfl hl) rfl ?_
      exact ⟨y, R, rfl, hst10.sub (.cons _ (.cons _ (List.Sublist.refl _))), hlv.out, hO.out⟩
theorem refOwn_any (x : NV) (w : World) (hx : x.In w) (hlen : ∀ k, k < 4 → (x.get k).l.length ≤ 3) : Calls Try.prog 61 #[.agg x.cells.toArray] w (ownOut x w 42) := by
  have hst := St.refl w
  have hL := hx.ln
  have Hlen := hid hlen
  clear hlen
  go_enter Try.func61, Try.ntmps61
  go_wp2_with (first | go_big_skip | go_big_guard | (refine wl_boxA hst rfl rfl rfl ?_; intro g w1 hst1; clear hst) | (refine wl_alloc hst1 rfl rfl ?_; intro gn w2 hst2; clear hst1))
  have hst3 : St w [] w2 (.blk gn 51 (zN 0).cells :: .blk g 51 x.cells :: []) := hst2
  clear hst2
  go_loopw [3] (fun i wr => ∃ k : Nat, k ≤ 4 ∧ i = .int .i64 k ∧ ∃ (y : NV) (R : List HA), Hid (y.lv = x.lv) ∧ Hid (y.isO 42 x R k) ∧ Hid (∀ j, k ≤ j → j < 4 → y.get j = x.get j) ∧ Hid y.Ln ∧ St w [] wr (.blk gn 51 (zN 0).cells :: .blk g 51 y.cells :: R)) (fun i _ => 4 - (intOf i).toNat)
  case atStart => exact ⟨0, by omega, rfl, x, [], hid rfl, hid (fun j h => absurd h (by omega)), hid (fun j _ _ => rfl), hid hL, hst3⟩
  case round =>
    clear hst3
    obtain ⟨k, hk, rfl, y, R, hlv, hO, hz, hLy, hst⟩ := hrel
    by_cases hk4 : k < 4
    · obtain ⟨hS, ao, n, c, h2, h3, h4⟩ := hx k
      have eg := hid (hz.out k (Nat.le_refl _) hk4)
      have hRd := hid (show Rd wr (y.get k).sv 2 n (addrsV (x.get k).l) by rw [eg.out, h2]; exact Rd.old hst h3)
      have hn3 : n ≤ 3 := by rw [← h4]; exact Hlen.out k hk4
      have H4 := hid h4
      clear h2 h3 h4
      have hRd2 := hid (show ∃ a m d, (y.get k).sv = .slice a m d ∧ Rd w (.slice a m d) 2 n (addrsV (x.get k).l) from by
        obtain ⟨_, ao, n2, c, h2, h3, h4⟩ := hx k
        have : n2 = n := h4.symm.trans H4.out
        subst this
        exact ⟨ao, n2, c, by rw [eg.out]; exact h2, h3⟩)
      obtain ⟨a5, m5, d5, e5, r5⟩ := hRd2.out
      have E5 := hid e5
      have R5 := hid r5
      have hat := hid (show y.cells[1 + k * 35]? = some (.slice a5 m5 d5) by rw [NV.at_sv hLy.out hk4, e5])
      clear e5 r5 hRd2 hRd
      go_wp2_with (first | go_big_skip | go_big_guard | (apply wl_bsX [] [] hst; rfl; rfl; exact rfl; exact rfl; infer_instance; infer_instance; rfl; rfl; rfl; intro g3 w3 hst4; clear hst; have hsn := St.toRow (n := 0) (cap := 0) (sz := 2) hst4 rfl (by decide) (by decide); clear hst4) | (refine wl_loadE rfl rfl rfl ?_; refine ⟨_, Loads.at (off := 1 + k * 35) [_, _] hsn hat.out, ?_⟩) | (apply wl_appX [] hsn; rfl; rfl; exact rfl; exact rfl; infer_instance; infer_instance; infer_instance; exact Rd.old hsn R5.out; exact addrs_ones _; (unfold maxLen; omega); intro v9 w9 hst9 _; clear hsn; obtain ⟨ao9, c9, rfl⟩ := St.rowSliceAt [] hst9) | (refine wl_store [_, _] hst9 rfl rfl rfl (v := .slice _ _ _) rfl rfl rfl (by show _ + 1 ≤ _; rw [NV.len hLy.out]; omega) ?_; intro w10 hst10; clear hst9))
      rw [Nat.zero_add] at hst10
      obtain ⟨p, hp⟩ : ∃ p : PV, p = (x.get k).re (.slice ao9 n c9) := ⟨_, rfl⟩
      have hput : putAt y.cells (1 + k * 35) [.slice ao9 n c9] = (y.set k ((x.get k).re (.slice ao9 n c9))).cells := by
        have := put_sv hLy.out hk4 (.slice ao9 n c9)
        rw [eg.out] at this
        exact this
      rw [← hp] at hput
      have hpl : p.l = (x.get k).l := by rw [hp]
      have hst11 : St w [] w10 (.row (.slice ao9 n c9) 42 2 n (addrsV p.l) :: .blk gn 51 (zN 0).cells :: .blk g 51 (y.set k p).cells :: R) := by
        rw [← hput, hpl]; exact hst10
      have hst12 : St w [] w10 (.blk gn 51 (zN 0).cells :: .blk g 51 (y.set k p).cells :: .row (.slice ao9 n c9) 42 2 n (addrsV p.l) :: R) := hst11.perm ((List.Perm.swap _ _ _).trans (List.Perm.cons _ (List.Perm.swap _ _ _)))
      clear hst10 hst11 hput
      have HO2 := hid (show (y.set k p).isO 42 x (.row (.slice ao9 n c9) 42 2 n (addrsV p.l) :: R) (k + 1) from by
        intro j hj
        by_cases e : j = k
        · subst e
          rw [NV.get_set_same y hk4]
          exact ⟨by rw [hp]; exact ⟨rfl, rfl, rfl, rfl⟩, ao9, n, c9, by rw [hp], .head _, by rw [hpl]; exact H4.out⟩
        · rw [NV.get_set_other y hk4 (by omega) e]
          obtain ⟨q1, ao, n, c, q2, q3, q4⟩ := hO.out j (by omega)
          exact ⟨q1, ao, n, c, q2, .tail _ q3, q4⟩)
      have Hz2 := hid (show ∀ j, k + 1 ≤ j → j < 4 → (y.set k p).get j = x.get j from fun j h1 h2 => by rw [NV.get_set_other y hk4 h2 (by omega)]; exact hz.out j (by omega) h2)
      have Hlv2 := hid (show (y.set k p).lv = x.lv by rw [NV.lv_set]; exact hlv.out)
      have HLy2 := hid (show (y.set k p).Ln from fun j => set_ln hLy.out hk4 (by rw [hp]; exact hS) j)
      clear hp hpl hn3
      go_roundw
      case rel => exact ⟨k + 1, by omega, by go_num, y.set k p, _, Hlv2, HO2, Hz2, HLy2, hst12⟩
      case measure => simp [intOf]; omega
    · have ek : k = 4 := by omega
      subst ek
      have hz4 := hid (NV.isO.ones hO.out hlv.out)
      clear hz hk hk4
      go_wp2_with (first | go_big_skip | go_big_guard | (refine wl_loadE rfl rfl rfl ?_; first | refine ⟨_, Loads.atA (y.cells) [_] hst (NV.len hLy.out) (NV.all y), ?_⟩) | (refine wl_storeA [] hst rfl rfl rfl rfl (NV.len hLy.out) hz4.out (NV.len (zN_ln 0)) ?_; intro w10 hst10; clear hst))
      have hl := Loads.atA (P := Try.prog) (off := 0) (T := 51) y.cells [] hst10 (NV.len hLy.out) (NV.all _)
      refine bodyPost_ret (results_cellL rfl rfl hl) rfl ?_
      exact ⟨y, R, rfl, hst10.sub (.cons _ (.cons _ (List.Sublist.refl _))), hlv.out, hO.out⟩
end Go.Proofs.Ythjafocnfpphlaa
