import Derived.Test.YtmdfbdfijnmhkaaGreatJMirrorTellse
import Derived.Test.YtmdfbdfijnmhkaaGreatJMirrorTellsb
import Derived.Test.YtmdfbdfijnmhkaaGreatOpenD1
namespace Go.Proofs.YtmdfbdfijnmhkaaGreat
set_option linter.unusedVariables false
set_option linter.unusedSimpArgs false
open Go.RowKit Hp
attribute [local irreducible] Go.Calls Go.wpList
set_option maxRecDepth 100000
set_option maxHeartbeats 4000000
theorem found_good {S : List UInt8} {but : Int} : ∀ {l ill : List (Int × Int)} {m : MV} {N : Nat}, MGood m N → MGood (found S but m l ill).m (N + l.length)
  | [], _, _, _, h => h
  | z :: l, ill, m, N, h => by
    have e : N + (z :: l).length = N + 1 + l.length := by rw [List.length_cons]; omega
    unfold found
    split
    · exact (found_good h).mono (by rw [e]; omega)
    · have h1 := h.looked z.1 z.2 S
      rw [e]
      split
      · exact h1.mono (Nat.le_add_right _ _)
      · split
        · exact found_good h1
        · split
          · exact h1.mono (Nat.le_add_right _ _)
          · exact found_good h1
theorem found_ill {S : List UInt8} {but : Int} : ∀ {l ill : List (Int × Int)} {m : MV}, (found S but m l ill).ill.length ≤ ill.length + l.length
  | [], _, _ => Nat.zero_le _
  | z :: l, ill, m => by
    have e : ill.length + (z :: l).length = ill.length + 1 + l.length := by rw [List.length_cons]; omega
    rw [e]
    unfold found
    split
    · exact Nat.le_trans found_ill (by omega)
    · split
      · show ill.length ≤ _
        omega
      · split
        · have := found_ill (S := S) (but := but) (l := l) (ill := ill ++ [z]) (m := m.looked z.1 z.2 S)
          rwa [List.length_append] at this
        · split
          · exact Nat.zero_le _
          · exact Nat.le_trans found_ill (by omega)
theorem heals_succ {m : MV} {l : List (Int × Int)} {b : List UInt8} {k : Nat} (hk : k < l.length) : m.heals (l.take (k + 1)) b = (m.heals (l.take k) b).healed (l.getD k (0, 0)).1 (l.getD k (0, 0)).2 b := by
  unfold MV.heals
  rw [List.take_succ_eq_append_getElem hk, List.foldl_append, List.getD_eq_getElem?_getD, List.getElem?_eq_getElem hk]
  rfl
def PVof (ao : Option Addr) (n c : Nat) (l : List (Int × Int)) (b v : Int) (S : List UInt8) : PV := ⟨.slice ao n c, l, b, v, S⟩
theorem get_odd {w0 w : World} {M : List Nat} {R : List HA} {gm ga : Nat} {x : GA} {m : MV} {N : Nat} (hS : St w0 M w (mP gm ga x m ++ R)) (hg : MGood m N) (ao : Option Addr) (n c : Nat) (l : List (Int × Int)) (b v : Int) (S : List UInt8) (hL : L32 S) (hn : l.length = n) (hA : ∀ w, St w0 M w R → Rd w (.slice ao n c) 2 n (addrsV l)) (hN : N + 2 * n ≤ 900000) (h1 : m.askE (PVof ao n c l b v S) ≠ 0) :
    Calls Tryz.prog 22 #[PM gm, .agg (ptrCells (.slice ao n c) b v S).toArray] w fun e w' => ∃ u x', e = .returned (.tuple #[u, .int .i64 (m.get (PVof ao n c l b v S)).er]) ∧ St w0 M w' (.rowP isB u 5 1 (m.get (PVof ao n c l b v S)).b.length (bytesV (m.get (PVof ao n c l b v S)).b) :: (mP gm ga x' (m.get (PVof ao n c l b v S)).m ++ R)) := by
  have hr : m.get (PVof ao n c l b v S) = ⟨m.askE (PVof ao n c l b v S), [], m⟩ := by unfold MV.get; rw [if_pos h1]
  rw [hr]
  have hst := hS
  have HG := hid hg
  have HL := hid hL
  have Hn := hid hn
  have HA := hid hA
  obtain ⟨E, hE⟩ : ∃ E, E = m.askE (PVof ao n c l b v S) := ⟨_, rfl⟩
  rw [← hE] at h1 ⊢
  have HAS : Hid (m.askE ⟨.slice ao n c, l, b, v, S⟩ = E) := hid hE.symm
  have d1 : (E != 0) = true := by simpa using h1
  clear hS hg hL hn hA hr hE h1
  unfold PM
  go_enter Tryz.func22, Tryz.ntmps22
  go_wp2_with (first | go_big_skip | go_big_guard | (refine wl_boxA hst rfl rfl rfl ?_; intro g3 w1 hst0; clear hst; have hst1 : St w0 M w1 (mP gm ga x m ++ (.blk g3 34 (ptrCells (.slice ao n c) b v S) :: R)) := St.behind (A := mP gm ga x m) hst0; clear hst0) | (refine wl_loadE rfl rfl rfl ?_; refine ⟨_, Loads.blkA (P := Tryz.prog) (T := 34) (vs := ptrCells (.slice ao n c) b v S) hst1 (by rw [ptr_len HL.out]; exact TyA.out) (List.mem_append_right _ (.head _)) (ptr_all _ _ _ _), ?_⟩) | (go_at_call 41; refine (asked_any (St.mat hst1 HG.out.sc.ok.d0) ao n c l b v S HL.out (HA.out _ (St.sub hst1 ((List.sublist_cons_self _ _).trans (List.sublist_append_right _ _)))) Hn.out).mono ?_; rw [HAS.out]; rintro _ w2 ⟨rfl, h4⟩; replace hst1 := St.call0 hst1 h4; clear h4))
  go_ret2
  exact ⟨_, x, rfl, St.nilPQ isB _ 1 (sub_x hst1)⟩
theorem get_none {w0 w : World} {M : List Nat} {R : List HA} {gm ga : Nat} {x : GA} {m : MV} {N : Nat} (hS : St w0 M w (mP gm ga x m ++ R)) (hg : MGood m N) (ao : Option Addr) (n c : Nat) (l : List (Int × Int)) (b v : Int) (S : List UInt8) (hL : L32 S) (hn : l.length = n) (hA : ∀ w, St w0 M w R → Rd w (.slice ao n c) 2 n (addrsV l)) (hN : N + 2 * n ≤ 900000) (h1 : m.askE (PVof ao n c l b v S) = 0) (h2 : (found S (-1) m l []).er ≠ 0) :
    Calls Tryz.prog 22 #[PM gm, .agg (ptrCells (.slice ao n c) b v S).toArray] w fun e w' => ∃ u x', e = .returned (.tuple #[u, .int .i64 (m.get (PVof ao n c l b v S)).er]) ∧ St w0 M w' (.rowP isB u 5 1 (m.get (PVof ao n c l b v S)).b.length (bytesV (m.get (PVof ao n c l b v S)).b) :: (mP gm ga x' (m.get (PVof ao n c l b v S)).m ++ R)) := by
  obtain ⟨F, hF⟩ : ∃ F, F = found S (-1) m l [] := ⟨_, rfl⟩
  rw [← hF] at h2
  have hr : m.get (PVof ao n c l b v S) = ⟨F.er, [], F.m⟩ := by
    unfold MV.get
    rw [if_neg (by rw [h1]; decide)]
    unfold PVof
    dsimp only
    rw [← hF, if_pos h2]
  rw [hr]
  have hst := hS
  have HG := hid hg
  have HL := hid hL
  have Hn := hid hn
  have HA := hid hA
  have HF := hid hF
  have HAS : Hid (m.askE ⟨.slice ao n c, l, b, v, S⟩ = 0) := hid h1
  obtain ⟨E, hE⟩ : ∃ E, E = F.er := ⟨_, rfl⟩
  rw [← hE] at h2 ⊢
  have HE := hid hE.symm
  have d1 : (E != 0) = true := by simpa using h2
  clear hS hg hL hn hA hr hE h1 h2 hF
  unfold PM
  go_enter Tryz.func22, Tryz.ntmps22
  go_wp2_with (first | go_big_skip | go_big_guard | (refine wl_boxA hst rfl rfl rfl ?_; intro g3 w1 hst0; clear hst; have hst1 : St w0 M w1 (mP gm ga x m ++ (.blk g3 34 (ptrCells (.slice ao n c) b v S) :: R)) := St.behind (A := mP gm ga x m) hst0; clear hst0) | (refine wl_loadE rfl rfl rfl ?_; refine ⟨_, Loads.blkA (P := Tryz.prog) (T := 34) (vs := ptrCells (.slice ao n c) b v S) hst1 (by rw [ptr_len HL.out]; exact TyA.out) (List.mem_append_right _ (.head _)) (ptr_all _ _ _ _), ?_⟩) | (go_at_call 41; refine (asked_any (St.mat hst1 HG.out.sc.ok.d0) ao n c l b v S HL.out (HA.out _ (St.sub hst1 ((List.sublist_cons_self _ _).trans (List.sublist_append_right _ _)))) Hn.out).mono ?_; rw [HAS.out]; rintro _ w2 ⟨rfl, h4⟩; replace hst1 := St.call0 hst1 h4; clear h4) | (go_at_call 43; have HC := found_any hst1 HG.out ao n c l b v S HL.out Hn.out (fun w h => HA.out w (St.sub h (List.sublist_cons_self _ _))) (by omega) (-1); rw [← HF.out] at HC; rw [HE.out] at HC; refine HC.mono ?_; clear HC; rintro _ w3 ⟨u, iv, rfl, h4⟩; have hst2 := h4; clear h4 hst1))
  go_ret2
  exact ⟨_, x, rfl, St.nilPQ isB _ 1 (sub_x (St.tl (St.tl hst2)))⟩
theorem get_some {w0 w : World} {M : List Nat} {R : List HA} {gm ga : Nat} {x : GA} {m : MV} {N : Nat} (hS : St w0 M w (mP gm ga x m ++ R)) (hg : MGood m N) (ao : Option Addr) (n c : Nat) (l : List (Int × Int)) (b v : Int) (S : List UInt8) (hL : L32 S) (hn : l.length = n) (hA : ∀ w, St w0 M w R → Rd w (.slice ao n c) 2 n (addrsV l)) (hN : N + 2 * n ≤ 900000) (h1 : m.askE (PVof ao n c l b v S) = 0) (h2 : (found S (-1) m l []).er = 0) :
    Calls Tryz.prog 22 #[PM gm, .agg (ptrCells (.slice ao n c) b v S).toArray] w fun e w' => ∃ u x', e = .returned (.tuple #[u, .int .i64 (m.get (PVof ao n c l b v S)).er]) ∧ St w0 M w' (.rowP isB u 5 1 (m.get (PVof ao n c l b v S)).b.length (bytesV (m.get (PVof ao n c l b v S)).b) :: (mP gm ga x' (m.get (PVof ao n c l b v S)).m ++ R)) := by
  obtain ⟨F, hF⟩ : ∃ F, F = found S (-1) m l [] := ⟨_, rfl⟩
  rw [← hF] at h2
  have hr : m.get (PVof ao n c l b v S) = ⟨0, F.b, F.m.heals F.ill F.b⟩ := by
    unfold MV.get
    rw [if_neg (by rw [h1]; decide)]
    unfold PVof
    dsimp only
    rw [← hF, if_neg (by rw [ h2]; decide)]
  rw [hr]
  have hst := hS
  have HG := hid hg
  have HL := hid hL
  have Hn := hid hn
  have HA := hid hA
  have HF := hid hF
  have HAS : Hid (m.askE ⟨.slice ao n c, l, b, v, S⟩ = 0) := hid h1
  have HE := hid h2
  have HGF := hid (show MGood F.m (N + n) from by rw [hF, ← hn]; exact found_good hg)
  have HIL := hid (show F.ill.length ≤ n from by rw [hF, ← hn]; have := found_ill (S := S) (but := -1) (l := l) (ill := []) (m := m); simpa using this)
  obtain ⟨L, hLL⟩ : ∃ L, L = F.ill := ⟨_, rfl⟩
  obtain ⟨B, hB⟩ : ∃ B, B = F.b := ⟨_, rfl⟩
  obtain ⟨FM, hFM⟩ : ∃ FM, FM = F.m := ⟨_, rfl⟩
  rw [← hLL, ← hB, ← hFM]
  rw [← hLL] at HIL
  rw [← hFM] at HGF
  have HI1 := hid hLL.symm
  have HB1 := hid hB.symm
  have HM1 := hid hFM.symm
  obtain ⟨cnt, hcnt⟩ : ∃ cnt, cnt = L.length := ⟨_, rfl⟩
  have HCNT := hid hcnt
  have HCNS := hid hcnt.symm
  rw [← hcnt] at HIL
  clear hS hg hL hn hA hr h1 h2 hF hLL hB hFM hcnt
  unfold PM
  go_enter Tryz.func22, Tryz.ntmps22
  go_wp2_with (first | go_big_skip | go_big_guard | (refine wl_boxA hst rfl rfl rfl ?_; intro g3 w1 hst0; clear hst; have hst1 : St w0 M w1 (mP gm ga x m ++ (.blk g3 34 (ptrCells (.slice ao n c) b v S) :: R)) := St.behind (A := mP gm ga x m) hst0; clear hst0) | (refine wl_loadE rfl rfl rfl ?_; refine ⟨_, Loads.blkA (P := Tryz.prog) (T := 34) (vs := ptrCells (.slice ao n c) b v S) hst1 (by rw [ptr_len HL.out]; exact TyA.out) (List.mem_append_right _ (.head _)) (ptr_all _ _ _ _), ?_⟩) | (go_at_call 41; refine (asked_any (St.mat hst1 HG.out.sc.ok.d0) ao n c l b v S HL.out (HA.out _ (St.sub hst1 ((List.sublist_cons_self _ _).trans (List.sublist_append_right _ _)))) Hn.out).mono ?_; rw [HAS.out]; rintro _ w2 ⟨rfl, h4⟩; replace hst1 := St.call0 hst1 h4; clear h4) | (go_at_call 43; have HC := found_any hst1 HG.out ao n c l b v S HL.out Hn.out (fun w h => HA.out w (St.sub h (List.sublist_cons_self _ _))) (by omega) (-1); rw [← HF.out] at HC; rw [HE.out, HI1.out, HB1.out, HM1.out, HCNS.out] at HC; refine HC.mono ?_; clear HC; rintro _ w3 ⟨u, iv, rfl, h4⟩; obtain ⟨ua, uc, rfl⟩ := St.rowPSlice [] h4; obtain ⟨ia, ic, rfl⟩ := St.rowSliceAt [_] h4; have hst2 := h4; clear h4 hst1))
  have hst3 : St w0 M w3 (mP gm ga x FM ++ (.rowP isB (.slice ua B.length uc) 5 1 B.length (bytesV B) :: .row (.slice ia cnt ic) 83 2 cnt (addrsV L) :: .blk g3 34 (ptrCells (.slice ao n c) b v S) :: R)) := St.perm hst2 (List.perm_append_comm_assoc [_, _] (mP gm ga x FM) _)
  clear hst2
  have hcn : cnt ≤ n := HIL.out
  go_wp2_with (first | go_big_skip | go_big_guard | fail)
  go_loopw [30] (fun i wr => ∃ (k : Nat) (x' : GA), k ≤ cnt ∧ i = .int .i64 k ∧ St w0 M wr (mP gm ga x' (FM.heals (L.take k) B) ++ (.rowP isB (.slice ua B.length uc) 5 1 B.length (bytesV B) :: .row (.slice ia cnt ic) 83 2 cnt (addrsV L) :: .blk g3 34 (ptrCells (.slice ao n c) b v S) :: R))) (fun i _ => cnt - (intOf i).toNat)
  case atStart => exact ⟨0, x, Nat.zero_le _, rfl, hst3⟩
  case round =>
    clear hst3
    obtain ⟨k, x1, hk, rfl, hst⟩ := hrel
    by_cases hlt : k < cnt
    · have d0 : decide ((k : Int) < (cnt : Int)) = true := decide_eq_true (by omega)
      obtain ⟨bb, off, rfl, hr⟩ := (Rd.row hst (List.mem_append_right _ (.tail _ (.head _)))).at hlt
      obtain ⟨z, hz⟩ : ∃ z, z = L.getD k (0, 0) := ⟨_, rfl⟩
      have hb := addr_both hr (k := k) (by rw [← HCNT.out]; exact hlt)
      rw [← hz] at hb
      have HB := hid hb
      have HH := hid (heals_succ (m := FM) (b := B) (l := L) (k := k) (by rw [← HCNT.out]; exact hlt))
      rw [← hz] at HH
      have HGK := hid (show MGood (FM.heals (L.take k) B) (N + n + k) from by
        have := HGF.out.heals (l := L.take k) (b := B)
        rwa [List.length_take, Nat.min_eq_left (by rw [← HCNT.out]; exact hk)] at this)
      clear hz hb hr
      go_wp2_with (first | go_big_skip | go_big_guard | (refine wl_index rfl rfl rfl rfl (hlt) ?_) | (refine wl_loadE rfl rfl rfl ?_; first | refine ⟨_, Loads.range (P := Tryz.prog) (cs := [.int .i64 z.1, .int .i64 z.2]) (TyA.out (n := 2)) HB.out, ?_⟩ | refine ⟨_, Loads.atA (P := Tryz.prog) [.int .i64 z.1, .int .i64 z.2] [] hst5 rfl rfl, ?_⟩) | (refine wl_alloc hst rfl rfl ?_; intro g11 w4 hst4; clear hst) | (refine wl_storeA [] hst4 rfl rfl rfl rfl rfl rfl rfl ?_; intro w5 hst5; clear hst4) | (go_at_call 58; refine (heal_any (St.behind (A := mP gm ga x1 (FM.heals (L.take k) B)) hst5) HGK.out (by have := HIL.out; omega) z.1 z.2 ua B.length uc B (GB.row (.tail _ (.head _)) rfl)).mono ?_; rw [← HH.out]; rintro _ w6 ⟨x2, rfl, h4⟩; have hst6 := sub_x h4; clear h4 hst5))
      go_roundw
      case rel => exact ⟨k + 1, x2, by omega, by go_num, hst6⟩
      case measure => simp [intOf]; omega
    · obtain rfl : k = cnt := by omega
      have d0 : decide ((k : Int) < (k : Int)) = false := decide_eq_false (by omega)
      rw [HCNT.out, List.take_length] at hst
      go_wp2_with (first | go_big_skip | go_big_guard | fail)
      go_ret2
      exact ⟨_, x1, rfl, St.sub (St.perm hst (List.perm_append_comm_assoc (mP gm ga x1 (FM.heals L B)) [_] _)) (.cons_cons _ (List.Sublist.append_left (.cons _ (.cons _ (List.Sublist.refl _))) _))⟩
theorem get_any {w0 w : World} {M : List Nat} {R : List HA} {gm ga : Nat} {x : GA} {m : MV} {N : Nat} (hS : St w0 M w (mP gm ga x m ++ R)) (hg : MGood m N) (ao : Option Addr) (n c : Nat) (l : List (Int × Int)) (b v : Int) (S : List UInt8) (hL : L32 S) (hn : l.length = n) (hA : ∀ w, St w0 M w R → Rd w (.slice ao n c) 2 n (addrsV l)) (hN : N + 2 * n ≤ 900000) :
    Calls Tryz.prog 22 #[PM gm, .agg (ptrCells (.slice ao n c) b v S).toArray] w fun e w' => ∃ u x', e = .returned (.tuple #[u, .int .i64 (m.get (PVof ao n c l b v S)).er]) ∧ St w0 M w' (.rowP isB u 5 1 (m.get (PVof ao n c l b v S)).b.length (bytesV (m.get (PVof ao n c l b v S)).b) :: (mP gm ga x' (m.get (PVof ao n c l b v S)).m ++ R)) := by
  by_cases h1 : m.askE (PVof ao n c l b v S) = 0
  · by_cases h2 : (found S (-1) m l []).er = 0
    · exact get_some hS hg ao n c l b v S hL hn hA hN h1 h2
    · exact get_none hS hg ao n c l b v S hL hn hA hN h1 h2
  · exact get_odd hS hg ao n c l b v S hL hn hA hN h1
end Go.Proofs.YtmdfbdfijnmhkaaGreat
namespace Go.Proofs.YtmdfbdfijnmhkaaGreat
set_option linter.unusedVariables false
set_option linter.unusedSimpArgs false
open Go.RowKit Hp
attribute [local irreducible] Go.Calls Go.wpList
set_option maxRecDepth 100000
set_option maxHeartbeats 4000000
theorem place_succ {dev : Int} {l : List (Int × Int)} {k : Nat} (hk : k < l.length) : placeOn dev (l.take (k + 1)) = if (l.getD k (0, 0)).1 = dev then (l.getD k (0, 0)).2 else placeOn dev (l.take k) := by
  unfold placeOn
  rw [List.take_succ_eq_append_getElem hk, List.foldl_append, List.getD_eq_getElem?_getD, List.getElem?_eq_getElem hk]
  rfl
theorem off_row {w0 w : World} {M : List Nat} {A P R : List HA} {T : TypeId} {ao : Option Addr} {n c : Nat} {bs : List UInt8} (h : St w0 M w (A ++ (P ++ R))) (hm : HA.rowP isB (.slice ao n c) T 1 n (bytesV bs) ∈ A) (hl : bs.length = n) : Off (.slice ao n c) (P.filterMap HA.foot) := by
  have h1 : St w0 M w (P ++ (A ++ R)) := St.perm h (List.perm_append_comm_assoc _ _ _)
  exact (GB.row (w0 := w0) (M := M) (List.mem_append_left R hm) hl).off h1
theorem restore_odd {w0 w : World} {M : List Nat} {R : List HA} {gm ga : Nat} {x : GA} {m : MV} {N : Nat} (hS : St w0 M w (mP gm ga x m ++ R)) (hg : MGood m N) (ao : Option Addr) (n c : Nat) (l : List (Int × Int)) (b v : Int) (S : List UInt8) (hL : L32 S) (hn : l.length = n) (hA : ∀ w, St w0 M w R → Rd w (.slice ao n c) 2 n (addrsV l)) (hN : N + 2 * n ≤ 900000) (dev : Int) (h1 : m.askE (PVof ao n c l b v S) ≠ 0) :
    Calls Tryz.prog 15 #[PM gm, .agg (ptrCells (.slice ao n c) b v S).toArray, .int .i64 dev] w fun e w' => ∃ x', e = .returned (.int .i64 (m.restore (PVof ao n c l b v S) dev).er) ∧ St w0 M w' (mP gm ga x' (m.restore (PVof ao n c l b v S) dev).m ++ R) := by
  have hr : m.restore (PVof ao n c l b v S) dev = ⟨m.askE (PVof ao n c l b v S), m⟩ := by unfold MV.restore; rw [if_pos h1]
  rw [hr]
  have hst := hS
  have HG := hid hg
  have HL := hid hL
  have Hn := hid hn
  have HA := hid hA
  obtain ⟨E, hE⟩ : ∃ E, E = m.askE (PVof ao n c l b v S) := ⟨_, rfl⟩
  rw [← hE] at h1 ⊢
  have HAS : Hid (m.askE ⟨.slice ao n c, l, b, v, S⟩ = E) := hid hE.symm
  have d1 : (E != 0) = true := by simpa using h1
  clear hS hg hL hn hA hr hE h1
  unfold PM
  go_enter Tryz.func15, Tryz.ntmps15
  go_wp2_with (first | go_big_skip | go_big_guard | (refine wl_boxA hst rfl rfl rfl ?_; intro g3 w1 hst0; clear hst; have hst1 : St w0 M w1 (mP gm ga x m ++ (.blk g3 34 (ptrCells (.slice ao n c) b v S) :: R)) := St.behind (A := mP gm ga x m) hst0; clear hst0) | (refine wl_loadE rfl rfl rfl ?_; first | refine ⟨_, Loads.blk (P := Tryz.prog) (T := 30) hst1 TyS.out (List.mem_append_right _ (.head _)) rfl, ?_⟩ | refine ⟨_, Loads.blkA (P := Tryz.prog) (T := 34) (vs := ptrCells (.slice ao n c) b v S) hst1 (by rw [ptr_len HL.out]; exact TyA.out) (List.mem_append_right _ (.head _)) (ptr_all _ _ _ _), ?_⟩) | (go_at_call 41; refine (asked_any (St.mat hst1 HG.out.sc.ok.d0) ao n c l b v S HL.out (HA.out _ (St.sub hst1 ((List.sublist_cons_self _ _).trans (List.sublist_append_right _ _)))) Hn.out).mono ?_; rw [HAS.out]; rintro _ w2 ⟨rfl, h4⟩; replace hst1 := St.call0 hst1 h4; clear h4))
  go_ret
  exact ⟨x, rfl, sub_x hst1⟩
theorem restore_missing {w0 w : World} {M : List Nat} {R : List HA} {gm ga : Nat} {x : GA} {m : MV} {N : Nat} (hS : St w0 M w (mP gm ga x m ++ R)) (hg : MGood m N) (ao : Option Addr) (n c : Nat) (l : List (Int × Int)) (b v : Int) (S : List UInt8) (hL : L32 S) (hn : l.length = n) (hA : ∀ w, St w0 M w R → Rd w (.slice ao n c) 2 n (addrsV l)) (hN : N + 2 * n ≤ 900000) (dev : Int) (h1 : m.askE (PVof ao n c l b v S) = 0) (h2 : placeOn dev l < 0) :
    Calls Tryz.prog 15 #[PM gm, .agg (ptrCells (.slice ao n c) b v S).toArray, .int .i64 dev] w fun e w' => ∃ x', e = .returned (.int .i64 (m.restore (PVof ao n c l b v S) dev).er) ∧ St w0 M w' (mP gm ga x' (m.restore (PVof ao n c l b v S) dev).m ++ R) := by
  have hr : m.restore (PVof ao n c l b v S) dev = ⟨6, m⟩ := by
    unfold MV.restore
    rw [if_neg (by rw [h1]; decide)]
    unfold PVof
    dsimp only
    rw [if_pos h2]
  rw [hr]
  have hst := hS
  have HG := hid hg
  have HL := hid hL
  have Hn := hid hn
  have HA := hid hA
  have HAS : Hid (m.askE ⟨.slice ao n c, l, b, v, S⟩ = 0) := hid h1
  obtain ⟨PO, hPO⟩ : ∃ PO, PO = placeOn dev l := ⟨_, rfl⟩
  rw [← hPO] at h2
  have HPO := hid hPO
  have f2 : decide (PO < 0) = true := decide_eq_true h2
  clear hS hg hL hn hA hr h1 h2 hPO
  unfold PM
  go_enter Tryz.func15, Tryz.ntmps15
  go_wp2_with (first | go_big_skip | go_big_guard | (refine wl_boxA hst rfl rfl rfl ?_; intro g3 w1 hst0; clear hst; have hst1 : St w0 M w1 (mP gm ga x m ++ (.blk g3 34 (ptrCells (.slice ao n c) b v S) :: R)) := St.behind (A := mP gm ga x m) hst0; clear hst0) | (refine wl_loadE rfl rfl rfl ?_; first | refine ⟨_, Loads.blk (P := Tryz.prog) (T := 30) hst1 TyS.out (List.mem_append_right _ (.head _)) rfl, ?_⟩ | refine ⟨_, Loads.blkA (P := Tryz.prog) (T := 34) (vs := ptrCells (.slice ao n c) b v S) hst1 (by rw [ptr_len HL.out]; exact TyA.out) (List.mem_append_right _ (.head _)) (ptr_all _ _ _ _), ?_⟩) | (go_at_call 41; refine (asked_any (St.mat hst1 HG.out.sc.ok.d0) ao n c l b v S HL.out (HA.out _ (St.sub hst1 ((List.sublist_cons_self _ _).trans (List.sublist_append_right _ _)))) Hn.out).mono ?_; rw [HAS.out]; rintro _ w2 ⟨rfl, h4⟩; replace hst1 := St.call0 hst1 h4; clear h4))
  go_loopw [8, 23] (fun q i wr => ∃ k : Nat, k ≤ n ∧ i = .int .i64 k ∧ q = .int .i64 (placeOn dev (l.take k)) ∧ St w0 M wr (mP gm ga x m ++ (.blk g3 34 (ptrCells (.slice ao n c) b v S) :: R))) (fun _ i _ => n - (intOf i).toNat)
  case atStart => exact ⟨0, Nat.zero_le _, rfl, rfl, hst1⟩
  case round =>
    clear hst1
    obtain ⟨k, hk, rfl, rfl, hst⟩ := hrel
    by_cases hlt : k < n
    · have d0 : decide ((k : Int) < (n : Int)) = true := decide_eq_true (by omega)
      obtain ⟨bb, off, rfl, hr⟩ := (HA.out _ (St.sub hst ((List.sublist_cons_self _ _).trans (List.sublist_append_right _ _)))).at hlt
      obtain ⟨z, hz⟩ : ∃ z, z = l.getD k (0, 0) := ⟨_, rfl⟩
      have hb := addr_both hr (k := k) (by rw [Hn.out]; exact hlt)
      rw [← hz] at hb
      have HB := hid hb
      have HH := hid (place_succ (dev := dev) (l := l) (k := k) (by rw [Hn.out]; exact hlt))
      rw [← hz] at HH
      obtain ⟨PK, hPK⟩ : ∃ PK, PK = placeOn dev (l.take k) := ⟨_, rfl⟩
      rw [← hPK] at HH
      rw [← hPK]
      clear hz hb hr hPK
      by_cases he : z.1 = dev
      · have d2 : (z.1 == dev) = true := beq_iff_eq.2 he
        have HQ := hid (HH.out.trans (if_pos he))
        clear he
        go_wp2_with (first | go_big_skip | go_big_guard | (refine wl_index rfl rfl rfl rfl (hlt) ?_) | (refine wl_loadE rfl rfl rfl ?_; first | refine ⟨_, Loads.range (P := Tryz.prog) (cs := [.int .i64 z.1, .int .i64 z.2]) (TyA.out (n := 2)) HB.out, ?_⟩ | refine ⟨_, Loads.at (P := Tryz.prog) [] hst5 rfl, ?_⟩) | (refine wl_alloc hst rfl rfl ?_; intro g11 w4 hst4; clear hst) | (refine wl_storeA [] hst4 rfl rfl rfl rfl rfl rfl rfl ?_; intro w5 hst5; clear hst4))
        go_roundw
        case rel => exact ⟨k + 1, by omega, by go_num, by rw [HQ.out], St.tl hst5⟩
        case measure => simp [intOf]; omega
      · have d2 : (z.1 == dev) = false := beq_eq_false_iff_ne.2 he
        have HQ := hid (HH.out.trans (if_neg he))
        clear he
        go_wp2_with (first | go_big_skip | go_big_guard | (refine wl_index rfl rfl rfl rfl (hlt) ?_) | (refine wl_loadE rfl rfl rfl ?_; first | refine ⟨_, Loads.range (P := Tryz.prog) (cs := [.int .i64 z.1, .int .i64 z.2]) (TyA.out (n := 2)) HB.out, ?_⟩ | refine ⟨_, Loads.at (P := Tryz.prog) [] hst5 rfl, ?_⟩) | (refine wl_alloc hst rfl rfl ?_; intro g11 w4 hst4; clear hst) | (refine wl_storeA [] hst4 rfl rfl rfl rfl rfl rfl rfl ?_; intro w5 hst5; clear hst4))
        go_roundw
        case rel => exact ⟨k + 1, by omega, by go_num, by rw [HQ.out], St.tl hst5⟩
        case measure => simp [intOf]; omega
    · obtain rfl : k = n := by omega
      have d0 : decide ((k : Int) < (k : Int)) = false := decide_eq_false (by omega)
      have hpk : placeOn dev (l.take k) = PO := by rw [HPO.out, ← Hn.out, List.take_length]
      rw [hpk]
      clear hpk
      go_wp2_with (first | go_big_skip | go_big_guard | fail)
      go_ret
      exact ⟨x, rfl, sub_x hst⟩
theorem restore_gone {w0 w : World} {M : List Nat} {R : List HA} {gm ga : Nat} {x : GA} {m : MV} {N : Nat} (hS : St w0 M w (mP gm ga x m ++ R)) (hg : MGood m N) (ao : Option Addr) (n c : Nat) (l : List (Int × Int)) (b v : Int) (S : List UInt8) (hL : L32 S) (hn : l.length = n) (hA : ∀ w, St w0 M w R → Rd w (.slice ao n c) 2 n (addrsV l)) (hN : N + 2 * n ≤ 900000) (dev : Int) (h1 : m.askE (PVof ao n c l b v S) = 0) (h2 : ¬ placeOn dev l < 0) (h3 : m.a.up dev = false) :
    Calls Tryz.prog 15 #[PM gm, .agg (ptrCells (.slice ao n c) b v S).toArray, .int .i64 dev] w fun e w' => ∃ x', e = .returned (.int .i64 (m.restore (PVof ao n c l b v S) dev).er) ∧ St w0 M w' (mP gm ga x' (m.restore (PVof ao n c l b v S) dev).m ++ R) := by
  have hr : m.restore (PVof ao n c l b v S) dev = ⟨14, m⟩ := by
    unfold MV.restore
    rw [if_neg (by rw [h1]; decide)]
    unfold PVof
    dsimp only
    rw [if_neg h2, if_pos h3]
  rw [hr]
  have hst := hS
  have HG := hid hg
  have HL := hid hL
  have Hn := hid hn
  have HA := hid hA
  have HAS : Hid (m.askE ⟨.slice ao n c, l, b, v, S⟩ = 0) := hid h1
  obtain ⟨PO, hPO⟩ : ∃ PO, PO = placeOn dev l := ⟨_, rfl⟩
  rw [← hPO] at h2
  have HPO := hid hPO
  have f2 : decide (PO < 0) = false := decide_eq_false h2
  have HUP := hid h3
  clear hS hg hL hn hA hr h1 h2 hPO h3
  unfold PM
  go_enter Tryz.func15, Tryz.ntmps15
  go_wp2_with (first | go_big_skip | go_big_guard | (refine wl_boxA hst rfl rfl rfl ?_; intro g3 w1 hst0; clear hst; have hst1 : St w0 M w1 (mP gm ga x m ++ (.blk g3 34 (ptrCells (.slice ao n c) b v S) :: R)) := St.behind (A := mP gm ga x m) hst0; clear hst0) | (refine wl_loadE rfl rfl rfl ?_; first | refine ⟨_, Loads.blk (P := Tryz.prog) (T := 30) hst1 TyS.out (List.mem_append_right _ (.head _)) rfl, ?_⟩ | refine ⟨_, Loads.blkA (P := Tryz.prog) (T := 34) (vs := ptrCells (.slice ao n c) b v S) hst1 (by rw [ptr_len HL.out]; exact TyA.out) (List.mem_append_right _ (.head _)) (ptr_all _ _ _ _), ?_⟩) | (go_at_call 41; refine (asked_any (St.mat hst1 HG.out.sc.ok.d0) ao n c l b v S HL.out (HA.out _ (St.sub hst1 ((List.sublist_cons_self _ _).trans (List.sublist_append_right _ _)))) Hn.out).mono ?_; rw [HAS.out]; rintro _ w2 ⟨rfl, h4⟩; replace hst1 := St.call0 hst1 h4; clear h4))
  go_loopw [8, 23] (fun q i wr => ∃ k : Nat, k ≤ n ∧ i = .int .i64 k ∧ q = .int .i64 (placeOn dev (l.take k)) ∧ St w0 M wr (mP gm ga x m ++ (.blk g3 34 (ptrCells (.slice ao n c) b v S) :: R))) (fun _ i _ => n - (intOf i).toNat)
  case atStart => exact ⟨0, Nat.zero_le _, rfl, rfl, hst1⟩
  case round =>
    clear hst1
    obtain ⟨k, hk, rfl, rfl, hst⟩ := hrel
    by_cases hlt : k < n
    · have d0 : decide ((k : Int) < (n : Int)) = true := decide_eq_true (by omega)
      obtain ⟨bb, off, rfl, hr⟩ := (HA.out _ (St.sub hst ((List.sublist_cons_self _ _).trans (List.sublist_append_right _ _)))).at hlt
      obtain ⟨z, hz⟩ : ∃ z, z = l.getD k (0, 0) := ⟨_, rfl⟩
      have hb := addr_both hr (k := k) (by rw [Hn.out]; exact hlt)
      rw [← hz] at hb
      have HB := hid hb
      have HH := hid (place_succ (dev := dev) (l := l) (k := k) (by rw [Hn.out]; exact hlt))
      rw [← hz] at HH
      obtain ⟨PK, hPK⟩ : ∃ PK, PK = placeOn dev (l.take k) := ⟨_, rfl⟩
      rw [← hPK] at HH
      rw [← hPK]
      clear hz hb hr hPK
      by_cases he : z.1 = dev
      · have d2 : (z.1 == dev) = true := beq_iff_eq.2 he
        have HQ := hid (HH.out.trans (if_pos he))
        clear he
        go_wp2_with (first | go_big_skip | go_big_guard | (refine wl_index rfl rfl rfl rfl (hlt) ?_) | (refine wl_loadE rfl rfl rfl ?_; first | refine ⟨_, Loads.range (P := Tryz.prog) (cs := [.int .i64 z.1, .int .i64 z.2]) (TyA.out (n := 2)) HB.out, ?_⟩ | refine ⟨_, Loads.at (P := Tryz.prog) [] hst5 rfl, ?_⟩) | (refine wl_alloc hst rfl rfl ?_; intro g11 w4 hst4; clear hst) | (refine wl_storeA [] hst4 rfl rfl rfl rfl rfl rfl rfl ?_; intro w5 hst5; clear hst4))
        go_roundw
        case rel => exact ⟨k + 1, by omega, by go_num, by rw [HQ.out], St.tl hst5⟩
        case measure => simp [intOf]; omega
      · have d2 : (z.1 == dev) = false := beq_eq_false_iff_ne.2 he
        have HQ := hid (HH.out.trans (if_neg he))
        clear he
        go_wp2_with (first | go_big_skip | go_big_guard | (refine wl_index rfl rfl rfl rfl (hlt) ?_) | (refine wl_loadE rfl rfl rfl ?_; first | refine ⟨_, Loads.range (P := Tryz.prog) (cs := [.int .i64 z.1, .int .i64 z.2]) (TyA.out (n := 2)) HB.out, ?_⟩ | refine ⟨_, Loads.at (P := Tryz.prog) [] hst5 rfl, ?_⟩) | (refine wl_alloc hst rfl rfl ?_; intro g11 w4 hst4; clear hst) | (refine wl_storeA [] hst4 rfl rfl rfl rfl rfl rfl rfl ?_; intro w5 hst5; clear hst4))
        go_roundw
        case rel => exact ⟨k + 1, by omega, by go_num, by rw [HQ.out], St.tl hst5⟩
        case measure => simp [intOf]; omega
    · obtain rfl : k = n := by omega
      have d0 : decide ((k : Int) < (k : Int)) = false := decide_eq_false (by omega)
      have hpk : placeOn dev (l.take k) = PO := by rw [HPO.out, ← Hn.out, List.take_length]
      rw [hpk]
      clear hpk
      go_wp2_with (first | go_big_skip | go_big_guard | (refine wl_loadE rfl rfl rfl ?_; first | refine ⟨_, Loads.at (P := Tryz.prog) [] hst rfl, ?_⟩ | refine ⟨_, Loads.blkA (P := Tryz.prog) (T := 34) (vs := ptrCells (.slice ao k c) b v S) hst (by rw [ptr_len HL.out]; exact TyA.out) (List.mem_append_right _ (.head _)) (ptr_all _ _ _ _), ?_⟩) | (go_at_call 42; refine (up_any (St.mat hst HG.out.sc.ok.d0).arr.toArrAt dev).mono ?_; rw [HUP.out]; rintro _ w3 ⟨rfl, h4⟩; replace hst := St.call0 hst h4; clear h4))
      go_ret
      exact ⟨x, rfl, sub_x hst⟩
theorem restore_none {w0 w : World} {M : List Nat} {R : List HA} {gm ga : Nat} {x : GA} {m : MV} {N : Nat} (hS : St w0 M w (mP gm ga x m ++ R)) (hg : MGood m N) (ao : Option Addr) (n c : Nat) (l : List (Int × Int)) (b v : Int) (S : List UInt8) (hL : L32 S) (hn : l.length = n) (hA : ∀ w, St w0 M w R → Rd w (.slice ao n c) 2 n (addrsV l)) (hN : N + 2 * n ≤ 900000) (dev : Int) (h1 : m.askE (PVof ao n c l b v S) = 0) (h2 : ¬ placeOn dev l < 0) (h3 : m.a.up dev = true) (h4' : (found S dev m l []).er ≠ 0) :
    Calls Tryz.prog 15 #[PM gm, .agg (ptrCells (.slice ao n c) b v S).toArray, .int .i64 dev] w fun e w' => ∃ x', e = .returned (.int .i64 (m.restore (PVof ao n c l b v S) dev).er) ∧ St w0 M w' (mP gm ga x' (m.restore (PVof ao n c l b v S) dev).m ++ R) := by
  obtain ⟨F, hF⟩ : ∃ F, F = found S dev m l [] := ⟨_, rfl⟩
  rw [← hF] at h4'
  have hr : m.restore (PVof ao n c l b v S) dev = ⟨F.er, F.m⟩ := by
    unfold MV.restore
    rw [if_neg (by rw [h1]; decide)]
    unfold PVof
    dsimp only
    rw [if_neg h2, if_neg (by rw [h3]; decide), ← hF, if_pos h4']
  rw [hr]
  have hst := hS
  have HG := hid hg
  have HL := hid hL
  have Hn := hid hn
  have HA := hid hA
  have HAS : Hid (m.askE ⟨.slice ao n c, l, b, v, S⟩ = 0) := hid h1
  obtain ⟨PO, hPO⟩ : ∃ PO, PO = placeOn dev l := ⟨_, rfl⟩
  rw [← hPO] at h2
  have HPO := hid hPO
  have f2 : decide (PO < 0) = false := decide_eq_false h2
  have HUP := hid h3
  have HF := hid hF
  obtain ⟨E, hE⟩ : ∃ E, E = F.er := ⟨_, rfl⟩
  rw [← hE] at h4' ⊢
  have HE := hid hE.symm
  have d1 : (E != 0) = true := by simpa using h4'
  clear hS hg hL hn hA hr h1 h2 hPO h3 h4' hE hF
  unfold PM
  go_enter Tryz.func15, Tryz.ntmps15
  go_wp2_with (first | go_big_skip | go_big_guard | (refine wl_boxA hst rfl rfl rfl ?_; intro g3 w1 hst0; clear hst; have hst1 : St w0 M w1 (mP gm ga x m ++ (.blk g3 34 (ptrCells (.slice ao n c) b v S) :: R)) := St.behind (A := mP gm ga x m) hst0; clear hst0) | (refine wl_loadE rfl rfl rfl ?_; first | refine ⟨_, Loads.blk (P := Tryz.prog) (T := 30) hst1 TyS.out (List.mem_append_right _ (.head _)) rfl, ?_⟩ | refine ⟨_, Loads.blkA (P := Tryz.prog) (T := 34) (vs := ptrCells (.slice ao n c) b v S) hst1 (by rw [ptr_len HL.out]; exact TyA.out) (List.mem_append_right _ (.head _)) (ptr_all _ _ _ _), ?_⟩) | (go_at_call 41; refine (asked_any (St.mat hst1 HG.out.sc.ok.d0) ao n c l b v S HL.out (HA.out _ (St.sub hst1 ((List.sublist_cons_self _ _).trans (List.sublist_append_right _ _)))) Hn.out).mono ?_; rw [HAS.out]; rintro _ w2 ⟨rfl, h4⟩; replace hst1 := St.call0 hst1 h4; clear h4))
  go_loopw [8, 23] (fun q i wr => ∃ k : Nat, k ≤ n ∧ i = .int .i64 k ∧ q = .int .i64 (placeOn dev (l.take k)) ∧ St w0 M wr (mP gm ga x m ++ (.blk g3 34 (ptrCells (.slice ao n c) b v S) :: R))) (fun _ i _ => n - (intOf i).toNat)
  case atStart => exact ⟨0, Nat.zero_le _, rfl, rfl, hst1⟩
  case round =>
    clear hst1
    obtain ⟨k, hk, rfl, rfl, hst⟩ := hrel
    by_cases hlt : k < n
    · have d0 : decide ((k : Int) < (n : Int)) = true := decide_eq_true (by omega)
      obtain ⟨bb, off, rfl, hr⟩ := (HA.out _ (St.sub hst ((List.sublist_cons_self _ _).trans (List.sublist_append_right _ _)))).at hlt
      obtain ⟨z, hz⟩ : ∃ z, z = l.getD k (0, 0) := ⟨_, rfl⟩
      have hb := addr_both hr (k := k) (by rw [Hn.out]; exact hlt)
      rw [← hz] at hb
      have HB := hid hb
      have HH := hid (place_succ (dev := dev) (l := l) (k := k) (by rw [Hn.out]; exact hlt))
      rw [← hz] at HH
      obtain ⟨PK, hPK⟩ : ∃ PK, PK = placeOn dev (l.take k) := ⟨_, rfl⟩
      rw [← hPK] at HH
      rw [← hPK]
      clear hz hb hr hPK
      by_cases he : z.1 = dev
      · have d2 : (z.1 == dev) = true := beq_iff_eq.2 he
        have HQ := hid (HH.out.trans (if_pos he))
        clear he
        go_wp2_with (first | go_big_skip | go_big_guard | (refine wl_index rfl rfl rfl rfl (hlt) ?_) | (refine wl_loadE rfl rfl rfl ?_; first | refine ⟨_, Loads.range (P := Tryz.prog) (cs := [.int .i64 z.1, .int .i64 z.2]) (TyA.out (n := 2)) HB.out, ?_⟩ | refine ⟨_, Loads.at (P := Tryz.prog) [] hst5 rfl, ?_⟩) | (refine wl_alloc hst rfl rfl ?_; intro g11 w4 hst4; clear hst) | (refine wl_storeA [] hst4 rfl rfl rfl rfl rfl rfl rfl ?_; intro w5 hst5; clear hst4))
        go_roundw
        case rel => exact ⟨k + 1, by omega, by go_num, by rw [HQ.out], St.tl hst5⟩
        case measure => simp [intOf]; omega
      · have d2 : (z.1 == dev) = false := beq_eq_false_iff_ne.2 he
        have HQ := hid (HH.out.trans (if_neg he))
        clear he
        go_wp2_with (first | go_big_skip | go_big_guard | (refine wl_index rfl rfl rfl rfl (hlt) ?_) | (refine wl_loadE rfl rfl rfl ?_; first | refine ⟨_, Loads.range (P := Tryz.prog) (cs := [.int .i64 z.1, .int .i64 z.2]) (TyA.out (n := 2)) HB.out, ?_⟩ | refine ⟨_, Loads.at (P := Tryz.prog) [] hst5 rfl, ?_⟩) | (refine wl_alloc hst rfl rfl ?_; intro g11 w4 hst4; clear hst) | (refine wl_storeA [] hst4 rfl rfl rfl rfl rfl rfl rfl ?_; intro w5 hst5; clear hst4))
        go_roundw
        case rel => exact ⟨k + 1, by omega, by go_num, by rw [HQ.out], St.tl hst5⟩
        case measure => simp [intOf]; omega
    · obtain rfl : k = n := by omega
      have d0 : decide ((k : Int) < (k : Int)) = false := decide_eq_false (by omega)
      have hpk : placeOn dev (l.take k) = PO := by rw [HPO.out, ← Hn.out, List.take_length]
      rw [hpk]
      clear hpk
      go_wp2_with (first | go_big_skip | go_big_guard | (refine wl_loadE rfl rfl rfl ?_; first | refine ⟨_, Loads.at (P := Tryz.prog) [] hst rfl, ?_⟩ | refine ⟨_, Loads.blkA (P := Tryz.prog) (T := 34) (vs := ptrCells (.slice ao k c) b v S) hst (by rw [ptr_len HL.out]; exact TyA.out) (List.mem_append_right _ (.head _)) (ptr_all _ _ _ _), ?_⟩) | (go_at_call 42; refine (up_any (St.mat hst HG.out.sc.ok.d0).arr.toArrAt dev).mono ?_; rw [HUP.out]; rintro _ w3 ⟨rfl, h4⟩; replace hst := St.call0 hst h4; clear h4) | (go_at_call 43; have HC := found_any hst HG.out ao k c l b v S HL.out Hn.out (fun w h => HA.out w (St.tl h)) (by omega) dev; rw [← HF.out] at HC; rw [HE.out] at HC; refine HC.mono ?_; clear HC; rintro _ w3 ⟨u, iv, rfl, h4⟩; have hst2 := h4; clear h4 hst))
      go_ret
      exact ⟨x, rfl, sub_x (St.tl (St.tl hst2))⟩
theorem restore_ok {w0 w : World} {M : List Nat} {R : List HA} {gm ga : Nat} {x : GA} {m : MV} {N : Nat} (hS : St w0 M w (mP gm ga x m ++ R)) (hg : MGood m N) (ao : Option Addr) (n c : Nat) (l : List (Int × Int)) (b v : Int) (S : List UInt8) (hL : L32 S) (hn : l.length = n) (hA : ∀ w, St w0 M w R → Rd w (.slice ao n c) 2 n (addrsV l)) (hN : N + 2 * n ≤ 900000) (dev : Int) (h1 : m.askE (PVof ao n c l b v S) = 0) (h2 : ¬ placeOn dev l < 0) (h3 : m.a.up dev = true) (h4' : (found S dev m l []).er = 0) :
    Calls Tryz.prog 15 #[PM gm, .agg (ptrCells (.slice ao n c) b v S).toArray, .int .i64 dev] w fun e w' => ∃ x', e = .returned (.int .i64 (m.restore (PVof ao n c l b v S) dev).er) ∧ St w0 M w' (mP gm ga x' (m.restore (PVof ao n c l b v S) dev).m ++ R) := by
  obtain ⟨F, hF⟩ : ∃ F, F = found S dev m l [] := ⟨_, rfl⟩
  rw [← hF] at h4'
  have hr : m.restore (PVof ao n c l b v S) dev = ⟨F.m.a.writeE dev (placeOn dev l) F.b, { F.m with a := F.m.a.write dev (placeOn dev l) F.b }⟩ := by
    unfold MV.restore
    rw [if_neg (by rw [h1]; decide)]
    unfold PVof
    dsimp only
    rw [if_neg h2, if_neg (by rw [h3]; decide), ← hF, if_neg (by rw [h4']; decide)]
  rw [hr]
  have hst := hS
  have HG := hid hg
  have HL := hid hL
  have Hn := hid hn
  have HA := hid hA
  have HAS : Hid (m.askE ⟨.slice ao n c, l, b, v, S⟩ = 0) := hid h1
  obtain ⟨PO, hPO⟩ : ∃ PO, PO = placeOn dev l := ⟨_, rfl⟩
  rw [← hPO] at h2 ⊢
  have HPO := hid hPO
  have f2 : decide (PO < 0) = false := decide_eq_false h2
  have HUP := hid h3
  have HF := hid hF
  have HE := hid h4'
  have HGF := hid (show MGood F.m (N + n) from by rw [hF, ← hn]; exact found_good hg)
  obtain ⟨B, hB⟩ : ∃ B, B = F.b := ⟨_, rfl⟩
  obtain ⟨FM, hFM⟩ : ∃ FM, FM = F.m := ⟨_, rfl⟩
  rw [← hB, ← hFM]
  rw [← hFM] at HGF
  have HB1 := hid hB.symm
  have HM1 := hid hFM.symm
  clear hS hg hL hn hA hr h1 h2 hPO h3 h4' hF hB hFM
  unfold PM
  go_enter Tryz.func15, Tryz.ntmps15
  go_wp2_with (first | go_big_skip | go_big_guard | (refine wl_boxA hst rfl rfl rfl ?_; intro g3 w1 hst0; clear hst; have hst1 : St w0 M w1 (mP gm ga x m ++ (.blk g3 34 (ptrCells (.slice ao n c) b v S) :: R)) := St.behind (A := mP gm ga x m) hst0; clear hst0) | (refine wl_loadE rfl rfl rfl ?_; first | refine ⟨_, Loads.blk (P := Tryz.prog) (T := 30) hst1 TyS.out (List.mem_append_right _ (.head _)) rfl, ?_⟩ | refine ⟨_, Loads.blkA (P := Tryz.prog) (T := 34) (vs := ptrCells (.slice ao n c) b v S) hst1 (by rw [ptr_len HL.out]; exact TyA.out) (List.mem_append_right _ (.head _)) (ptr_all _ _ _ _), ?_⟩) | (go_at_call 41; refine (asked_any (St.mat hst1 HG.out.sc.ok.d0) ao n c l b v S HL.out (HA.out _ (St.sub hst1 ((List.sublist_cons_self _ _).trans (List.sublist_append_right _ _)))) Hn.out).mono ?_; rw [HAS.out]; rintro _ w2 ⟨rfl, h4⟩; replace hst1 := St.call0 hst1 h4; clear h4))
  go_loopw [8, 23] (fun q i wr => ∃ k : Nat, k ≤ n ∧ i = .int .i64 k ∧ q = .int .i64 (placeOn dev (l.take k)) ∧ St w0 M wr (mP gm ga x m ++ (.blk g3 34 (ptrCells (.slice ao n c) b v S) :: R))) (fun _ i _ => n - (intOf i).toNat)
  case atStart => exact ⟨0, Nat.zero_le _, rfl, rfl, hst1⟩
  case round =>
    clear hst1
    obtain ⟨k, hk, rfl, rfl, hst⟩ := hrel
    by_cases hlt : k < n
    · have d0 : decide ((k : Int) < (n : Int)) = true := decide_eq_true (by omega)
      obtain ⟨bb, off, rfl, hr⟩ := (HA.out _ (St.sub hst ((List.sublist_cons_self _ _).trans (List.sublist_append_right _ _)))).at hlt
      obtain ⟨z, hz⟩ : ∃ z, z = l.getD k (0, 0) := ⟨_, rfl⟩
      have hb := addr_both hr (k := k) (by rw [Hn.out]; exact hlt)
      rw [← hz] at hb
      have HB := hid hb
      have HH := hid (place_succ (dev := dev) (l := l) (k := k) (by rw [Hn.out]; exact hlt))
      rw [← hz] at HH
      obtain ⟨PK, hPK⟩ : ∃ PK, PK = placeOn dev (l.take k) := ⟨_, rfl⟩
      rw [← hPK] at HH
      rw [← hPK]
      clear hz hb hr hPK
      by_cases he : z.1 = dev
      · have d2 : (z.1 == dev) = true := beq_iff_eq.2 he
        have HQ := hid (HH.out.trans (if_pos he))
        clear he
        go_wp2_with (first | go_big_skip | go_big_guard | (refine wl_index rfl rfl rfl rfl (hlt) ?_) | (refine wl_loadE rfl rfl rfl ?_; first | refine ⟨_, Loads.range (P := Tryz.prog) (cs := [.int .i64 z.1, .int .i64 z.2]) (TyA.out (n := 2)) HB.out, ?_⟩ | refine ⟨_, Loads.at (P := Tryz.prog) [] hst5 rfl, ?_⟩) | (refine wl_alloc hst rfl rfl ?_; intro g11 w4 hst4; clear hst) | (refine wl_storeA [] hst4 rfl rfl rfl rfl rfl rfl rfl ?_; intro w5 hst5; clear hst4))
        go_roundw
        case rel => exact ⟨k + 1, by omega, by go_num, by rw [HQ.out], St.tl hst5⟩
        case measure => simp [intOf]; omega
      · have d2 : (z.1 == dev) = false := beq_eq_false_iff_ne.2 he
        have HQ := hid (HH.out.trans (if_neg he))
        clear he
        go_wp2_with (first | go_big_skip | go_big_guard | (refine wl_index rfl rfl rfl rfl (hlt) ?_) | (refine wl_loadE rfl rfl rfl ?_; first | refine ⟨_, Loads.range (P := Tryz.prog) (cs := [.int .i64 z.1, .int .i64 z.2]) (TyA.out (n := 2)) HB.out, ?_⟩ | refine ⟨_, Loads.at (P := Tryz.prog) [] hst5 rfl, ?_⟩) | (refine wl_alloc hst rfl rfl ?_; intro g11 w4 hst4; clear hst) | (refine wl_storeA [] hst4 rfl rfl rfl rfl rfl rfl rfl ?_; intro w5 hst5; clear hst4))
        go_roundw
        case rel => exact ⟨k + 1, by omega, by go_num, by rw [HQ.out], St.tl hst5⟩
        case measure => simp [intOf]; omega
    · obtain rfl : k = n := by omega
      have d0 : decide ((k : Int) < (k : Int)) = false := decide_eq_false (by omega)
      have hpk : placeOn dev (l.take k) = PO := by rw [HPO.out, ← Hn.out, List.take_length]
      rw [hpk]
      clear hpk
      go_wp2_with (first | go_big_skip | go_big_guard | (refine wl_loadE rfl rfl rfl ?_; first | refine ⟨_, Loads.at (P := Tryz.prog) [] hst rfl, ?_⟩ | refine ⟨_, Loads.blkA (P := Tryz.prog) (T := 34) (vs := ptrCells (.slice ao k c) b v S) hst (by rw [ptr_len HL.out]; exact TyA.out) (List.mem_append_right _ (.head _)) (ptr_all _ _ _ _), ?_⟩) | (go_at_call 42; refine (up_any (St.mat hst HG.out.sc.ok.d0).arr.toArrAt dev).mono ?_; rw [HUP.out]; rintro _ w3 ⟨rfl, h4⟩; replace hst := St.call0 hst h4; clear h4) | (go_at_call 43; have HC := found_any hst HG.out ao k c l b v S HL.out Hn.out (fun w h => HA.out w (St.tl h)) (by omega) dev; rw [← HF.out] at HC; rw [HE.out, HB1.out, HM1.out] at HC; refine HC.mono ?_; clear HC; rintro _ w3 ⟨u, iv, rfl, h4⟩; obtain ⟨ua, uc, rfl⟩ := St.rowPSlice [] h4; have hst2 := h4; clear h4 hst) | (refine wl_loadE rfl rfl rfl ?_; refine ⟨_, Loads.at (P := Tryz.prog) [_, _] hst2 rfl, ?_⟩) | (go_at_call 44; refine (writeM_any (mid_in (P := [_, _]) (Bs := [_]) hst2) HGF.out.sc.ok (HGF.out.st (by omega)) (HGF.out.ll (by omega)) dev PO ua B.length uc B (Rd.rowP hst2 (.head _)) rfl (off_row (A := [_, _, _]) (P := arP ga x FM.a) hst2 (.head _) rfl)).mono ?_; rintro _ w6 ⟨rfl, x2, h4⟩; have hst3 := mid_out (P := [_, _]) (Bs := [_]) hst2 h4; clear h4 hst2))
      go_ret
      exact ⟨x2, rfl, sub_x (A := mP gm ga x2 { FM with a := FM.a.write dev PO B }) (St.tl (St.tl hst3))⟩
theorem restore_any {w0 w : World} {M : List Nat} {R : List HA} {gm ga : Nat} {x : GA} {m : MV} {N : Nat} (hS : St w0 M w (mP gm ga x m ++ R)) (hg : MGood m N) (ao : Option Addr) (n c : Nat) (l : List (Int × Int)) (b v : Int) (S : List UInt8) (hL : L32 S) (hn : l.length = n) (hA : ∀ w, St w0 M w R → Rd w (.slice ao n c) 2 n (addrsV l)) (hN : N + 2 * n ≤ 900000) (dev : Int) :
    Calls Tryz.prog 15 #[PM gm, .agg (ptrCells (.slice ao n c) b v S).toArray, .int .i64 dev] w fun e w' => ∃ x', e = .returned (.int .i64 (m.restore (PVof ao n c l b v S) dev).er) ∧ St w0 M w' (mP gm ga x' (m.restore (PVof ao n c l b v S) dev).m ++ R) := by
  by_cases h1 : m.askE (PVof ao n c l b v S) = 0
  · by_cases h2 : placeOn dev l < 0
    · exact restore_missing hS hg ao n c l b v S hL hn hA hN dev h1 h2
    · cases h3 : m.a.up dev
      · exact restore_gone hS hg ao n c l b v S hL hn hA hN dev h1 h2 h3
      · by_cases h4 : (found S dev m l []).er = 0
        · exact restore_ok hS hg ao n c l b v S hL hn hA hN dev h1 h2 h3 h4
        · exact restore_none hS hg ao n c l b v S hL hn hA hN dev h1 h2 h3 h4
  · exact restore_odd hS hg ao n c l b v S hL hn hA hN dev h1
end Go.Proofs.YtmdfbdfijnmhkaaGreat
namespace Go.Proofs.YtmdfbdfijnmhkaaGreat
set_option linter.unusedVariables false
set_option linter.unusedSimpArgs false
open Go.RowKit Hp
attribute [local irreducible] Go.Calls Go.wpList
set_option maxRecDepth 100000
set_option maxHeartbeats 4000000
theorem wrote_cons {b : List UInt8} {a : AR} {cnt k : Nat} {l : List (Int × Int)} (hk : k < l.length) : wrote16 b a cnt (l.drop k) = (if a.writeE (l.getD k (0, 0)).1 (l.getD k (0, 0)).2 b = 0 then wrote16 b (a.write (l.getD k (0, 0)).1 (l.getD k (0, 0)).2 b) (cnt + 1) (l.drop (k + 1))
    else if a.writeE (l.getD k (0, 0)).1 (l.getD k (0, 0)).2 b = 10 then ⟨10, 0, a.write (l.getD k (0, 0)).1 (l.getD k (0, 0)).2 b⟩
    else wrote16 b (a.write (l.getD k (0, 0)).1 (l.getD k (0, 0)).2 b) cnt (l.drop (k + 1))) := by
  rw [drop_getD hk]
  conv => lhs; unfold wrote16
def MV.withA (m : MV) (a : AR) : MV := { m with a := a }
section
attribute [local go_sem ↓] loadedIm3 loadedAm3
theorem put_len {w0 w : World} {M : List Nat} {R : List HA} {gm ga : Nat} {x : GA} {m : MV} {N : Nat} (hS : St w0 M w (mP gm ga x m ++ R)) (hg : MGood m N) (ao : Option Addr) (n c : Nat) (l : List (Int × Int)) (hA : ∀ w, St w0 M w R → Rd w (.slice ao n c) 2 n (addrsV l)) (hn : l.length = n) (bo : Option Addr) (bn bc : Nat) (bs : List UInt8) (hb : GB w0 M R (.slice bo bn bc) bn bs) (hN : N ≤ 800000) (h1 : bs.length ≠ 256) :
    Calls Tryz.prog 24 #[PM gm, .slice ao n c, .slice bo bn bc] w fun e w' => ∃ x', e = .returned (.tuple #[.int .i64 (m.put l bs).n, .int .i64 (m.put l bs).er]) ∧ St w0 M w' (mP gm ga x' (m.withA (m.put l bs).a) ++ R) := by
  have ho : m.putOk l bs = false := by unfold MV.putOk; rw [decide_eq_false h1]; rfl
  have hr : m.put l bs = ⟨2, 0, m.a⟩ := by unfold MV.put; rw [ho]; rfl
  rw [hr]
  have hst := hS
  have HG := hid hg
  have HN := hid hn
  have HA := hid hA
  have hbl := hb.len
  have d1 : ((bn : Int) != 256) = true := by simp; omega
  clear hS hg hn hA ho hr hbl hb h1
  unfold PM
  go_enter Tryz.func24, Tryz.ntmps24
  go_wp2_with (first | go_big_skip | go_big_guard | (go_at_call 62; refine (mirNone_any (St.mat hst HG.out.sc.ok.d0)).mono ?_; rintro _ w2 ⟨rfl, h4⟩; replace hst := St.call0 hst h4; clear h4))
  go_ret2
  exact ⟨x, rfl, hst⟩
theorem put_few {w0 w : World} {M : List Nat} {R : List HA} {gm ga : Nat} {x : GA} {m : MV} {N : Nat} (hS : St w0 M w (mP gm ga x m ++ R)) (hg : MGood m N) (ao : Option Addr) (n c : Nat) (l : List (Int × Int)) (hA : ∀ w, St w0 M w R → Rd w (.slice ao n c) 2 n (addrsV l)) (hn : l.length = n) (bo : Option Addr) (bn bc : Nat) (bs : List UInt8) (hb : GB w0 M R (.slice bo bn bc) bn bs) (hN : N ≤ 800000) (h1 : bs.length = 256) (h2 : n < 1) :
    Calls Tryz.prog 24 #[PM gm, .slice ao n c, .slice bo bn bc] w fun e w' => ∃ x', e = .returned (.tuple #[.int .i64 (m.put l bs).n, .int .i64 (m.put l bs).er]) ∧ St w0 M w' (mP gm ga x' (m.withA (m.put l bs).a) ++ R) := by
  have ho : m.putOk l bs = false := by unfold MV.putOk; rw [decide_eq_false (p := 1 ≤ l.length ∧ l.length ≤ 3) (by omega), Bool.and_false]; rfl
  have hr : m.put l bs = ⟨2, 0, m.a⟩ := by unfold MV.put; rw [ho]; rfl
  rw [hr]
  have hst := hS
  have HG := hid hg
  have HN := hid hn
  have HA := hid hA
  have hbl := hb.len
  obtain rfl : bn = 256 := by omega
  have d2 : decide ((n : Int) < 1) = true := decide_eq_true (by omega)
  clear hS hg hn hA ho hr hbl hb h1 h2
  unfold PM
  go_enter Tryz.func24, Tryz.ntmps24
  go_wp2_with (first | go_big_skip | go_big_guard | (go_at_call 62; refine (mirNone_any (St.mat hst HG.out.sc.ok.d0)).mono ?_; rintro _ w2 ⟨rfl, h4⟩; replace hst := St.call0 hst h4; clear h4))
  go_ret2
  exact ⟨x, rfl, hst⟩
theorem put_many {w0 w : World} {M : List Nat} {R : List HA} {gm ga : Nat} {x : GA} {m : MV} {N : Nat} (hS : St w0 M w (mP gm ga x m ++ R)) (hg : MGood m N) (ao : Option Addr) (n c : Nat) (l : List (Int × Int)) (hA : ∀ w, St w0 M w R → Rd w (.slice ao n c) 2 n (addrsV l)) (hn : l.length = n) (bo : Option Addr) (bn bc : Nat) (bs : List UInt8) (hb : GB w0 M R (.slice bo bn bc) bn bs) (hN : N ≤ 800000) (h1 : bs.length = 256) (h2 : ¬ n < 1) (h3 : 3 < n) :
    Calls Tryz.prog 24 #[PM gm, .slice ao n c, .slice bo bn bc] w fun e w' => ∃ x', e = .returned (.tuple #[.int .i64 (m.put l bs).n, .int .i64 (m.put l bs).er]) ∧ St w0 M w' (mP gm ga x' (m.withA (m.put l bs).a) ++ R) := by
  have ho : m.putOk l bs = false := by unfold MV.putOk; rw [decide_eq_false (p := 1 ≤ l.length ∧ l.length ≤ 3) (by omega), Bool.and_false]; rfl
  have hr : m.put l bs = ⟨2, 0, m.a⟩ := by unfold MV.put; rw [ho]; rfl
  rw [hr]
  have hst := hS
  have HG := hid hg
  have HN := hid hn
  have HA := hid hA
  have hbl := hb.len
  obtain rfl : bn = 256 := by omega
  have d2 : decide ((n : Int) < 1) = false := decide_eq_false (by omega)
  have d3 : decide ((n : Int) > 3) = true := decide_eq_true (by omega)
  clear hS hg hn hA ho hr hbl hb h1 h2 h3
  unfold PM
  go_enter Tryz.func24, Tryz.ntmps24
  go_wp2_with (first | go_big_skip | go_big_guard | (go_at_call 62; refine (mirNone_any (St.mat hst HG.out.sc.ok.d0)).mono ?_; rintro _ w2 ⟨rfl, h4⟩; replace hst := St.call0 hst h4; clear h4))
  go_ret2
  exact ⟨x, rfl, hst⟩
theorem put_off {w0 w : World} {M : List Nat} {R : List HA} {gm ga : Nat} {x : GA} {m : MV} {N : Nat} (hS : St w0 M w (mP gm ga x m ++ R)) (hg : MGood m N) (ao : Option Addr) (n c : Nat) (l : List (Int × Int)) (hA : ∀ w, St w0 M w R → Rd w (.slice ao n c) 2 n (addrsV l)) (hn : l.length = n) (bo : Option Addr) (bn bc : Nat) (bs : List UInt8) (hb : GB w0 M R (.slice bo bn bc) bn bs) (hN : N ≤ 800000) (h1 : bs.length = 256) (h2 : ¬ n < 1) (h3 : ¬ 3 < n) (h4 : m.lies l = false) :
    Calls Tryz.prog 24 #[PM gm, .slice ao n c, .slice bo bn bc] w fun e w' => ∃ x', e = .returned (.tuple #[.int .i64 (m.put l bs).n, .int .i64 (m.put l bs).er]) ∧ St w0 M w' (mP gm ga x' (m.withA (m.put l bs).a) ++ R) := by
  have ho : m.putOk l bs = false := by unfold MV.putOk; rw [h4, Bool.false_and, Bool.and_false]
  have hr : m.put l bs = ⟨2, 0, m.a⟩ := by unfold MV.put; rw [ho]; rfl
  rw [hr]
  have hst := hS
  have HG := hid hg
  have HN := hid hn
  have HA := hid hA
  have hbl := hb.len
  obtain rfl : bn = 256 := by omega
  have d2 : decide ((n : Int) < 1) = false := decide_eq_false (by omega)
  have d3 : decide ((n : Int) > 3) = false := decide_eq_false (by omega)
  have HLI := hid h4
  clear hS hg hn hA ho hr hbl hb h1 h2 h3 h4
  unfold PM
  go_enter Tryz.func24, Tryz.ntmps24
  go_wp2_with (first | go_big_skip | go_big_guard | (go_at_call 62; refine (mirNone_any (St.mat hst HG.out.sc.ok.d0)).mono ?_; rintro _ w2 ⟨rfl, h4⟩; replace hst := St.call0 hst h4; clear h4) | (go_at_call 63; have HD := mirSectors_any (St.mat hst HG.out.sc.ok.d0) ao n c l (HA.out _ (St.sub hst (List.sublist_append_right _ _))) HN.out; rw [HLI.out] at HD; refine HD.mono ?_; clear HD; rintro _ w3 ⟨rfl, h4⟩; replace hst := St.call0 hst h4; clear h4))
  go_ret2
  exact ⟨x, rfl, hst⟩
theorem put_near {w0 w : World} {M : List Nat} {R : List HA} {gm ga : Nat} {x : GA} {m : MV} {N : Nat} (hS : St w0 M w (mP gm ga x m ++ R)) (hg : MGood m N) (ao : Option Addr) (n c : Nat) (l : List (Int × Int)) (hA : ∀ w, St w0 M w R → Rd w (.slice ao n c) 2 n (addrsV l)) (hn : l.length = n) (bo : Option Addr) (bn bc : Nat) (bs : List UInt8) (hb : GB w0 M R (.slice bo bn bc) bn bs) (hN : N ≤ 800000) (h1 : bs.length = 256) (h2 : ¬ n < 1) (h3 : ¬ 3 < n) (h4 : m.lies l = true) (h5 : apartB l = false) :
    Calls Tryz.prog 24 #[PM gm, .slice ao n c, .slice bo bn bc] w fun e w' => ∃ x', e = .returned (.tuple #[.int .i64 (m.put l bs).n, .int .i64 (m.put l bs).er]) ∧ St w0 M w' (mP gm ga x' (m.withA (m.put l bs).a) ++ R) := by
  have ho : m.putOk l bs = false := by unfold MV.putOk; rw [h5, Bool.and_false, Bool.and_false]
  have hr : m.put l bs = ⟨2, 0, m.a⟩ := by unfold MV.put; rw [ho]; rfl
  rw [hr]
  have hst := hS
  have HG := hid hg
  have HN := hid hn
  have HA := hid hA
  have hbl := hb.len
  obtain rfl : bn = 256 := by omega
  have d2 : decide ((n : Int) < 1) = false := decide_eq_false (by omega)
  have d3 : decide ((n : Int) > 3) = false := decide_eq_false (by omega)
  have HLI := hid h4
  have HAP := hid h5
  clear hS hg hn hA ho hr hbl hb h1 h2 h3 h4 h5
  unfold PM
  go_enter Tryz.func24, Tryz.ntmps24
  go_wp2_with (first | go_big_skip | go_big_guard | (go_at_call 62; refine (mirNone_any (St.mat hst HG.out.sc.ok.d0)).mono ?_; rintro _ w2 ⟨rfl, h4⟩; replace hst := St.call0 hst h4; clear h4) | (go_at_call 63; have HD := mirSectors_any (St.mat hst HG.out.sc.ok.d0) ao n c l (HA.out _ (St.sub hst (List.sublist_append_right _ _))) HN.out; rw [HLI.out] at HD; refine HD.mono ?_; clear HD; rintro _ w3 ⟨rfl, h4⟩; replace hst := St.call0 hst h4; clear h4) | (go_at_call 64; have HD := apart16_any ao n c l _ (HA.out _ (St.sub hst (List.sublist_append_right _ _))) HN.out; rw [HAP.out] at HD; refine HD.mono ?_; clear HD; rintro _ w3 ⟨rfl, h4⟩; replace hst := St.call0 hst h4; clear h4))
  go_ret2
  exact ⟨x, rfl, hst⟩
theorem put_ok {w0 w : World} {M : List Nat} {R : List HA} {gm ga : Nat} {x : GA} {m : MV} {N : Nat} (hS : St w0 M w (mP gm ga x m ++ R)) (hg : MGood m N) (ao : Option Addr) (n c : Nat) (l : List (Int × Int)) (hA : ∀ w, St w0 M w R → Rd w (.slice ao n c) 2 n (addrsV l)) (hn : l.length = n) (bo : Option Addr) (bn bc : Nat) (bs : List UInt8) (hb : GB w0 M R (.slice bo bn bc) bn bs) (hN : N ≤ 800000) (h1 : bs.length = 256) (h2 : ¬ n < 1) (h3 : ¬ 3 < n) (h4 : m.lies l = true) (h5 : apartB l = true) :
    Calls Tryz.prog 24 #[PM gm, .slice ao n c, .slice bo bn bc] w fun e w' => ∃ x', e = .returned (.tuple #[.int .i64 (m.put l bs).n, .int .i64 (m.put l bs).er]) ∧ St w0 M w' (mP gm ga x' (m.withA (m.put l bs).a) ++ R) := by
  have ho : m.putOk l bs = true := by unfold MV.putOk; rw [h4, h5, decide_eq_true h1, decide_eq_true (p := 1 ≤ l.length ∧ l.length ≤ 3) (by omega)]; rfl
  have hr : m.put l bs = wrote16 bs m.a 0 l := by unfold MV.put; rw [ho]; rfl
  rw [hr]
  have hst := hS
  have HG := hid hg
  have HN := hid hn
  have HA := hid hA
  have hbl := hb.len
  obtain rfl : bn = 256 := by omega
  have d2 : decide ((n : Int) < 1) = false := decide_eq_false (by omega)
  have d3 : decide ((n : Int) > 3) = false := decide_eq_false (by omega)
  have HLI := hid h4
  have HAP := hid h5
  have HB := hid hb
  have HBL := hid h1
  have hn3 : n ≤ 3 := by omega
  clear hS hg hn hA ho hr hbl hb h1 h2 h3 h4 h5
  unfold PM
  go_enter Tryz.func24, Tryz.ntmps24
  go_wp2_with (first | go_big_skip | go_big_guard | (go_at_call 62; refine (mirNone_any (St.mat hst HG.out.sc.ok.d0)).mono ?_; rintro _ w2 ⟨rfl, h4⟩; replace hst := St.call0 hst h4; clear h4) | (go_at_call 63; have HD := mirSectors_any (St.mat hst HG.out.sc.ok.d0) ao n c l (HA.out _ (St.sub hst (List.sublist_append_right _ _))) HN.out; rw [HLI.out] at HD; refine HD.mono ?_; clear HD; rintro _ w3 ⟨rfl, h4⟩; replace hst := St.call0 hst h4; clear h4) | (go_at_call 64; have HD := apart16_any ao n c l _ (HA.out _ (St.sub hst (List.sublist_append_right _ _))) HN.out; rw [HAP.out] at HD; refine HD.mono ?_; clear HD; rintro _ w3 ⟨rfl, h4⟩; replace hst := St.call0 hst h4; clear h4))
  obtain ⟨W, hW⟩ : ∃ W, W = wrote16 bs m.a 0 l := ⟨_, rfl⟩
  have hm0 : m.withA m.a = m := rfl
  go_loopw [8, 41] (fun q i wr => ∃ (k cnt : Nat) (x' : GA) (a' : AR), k ≤ n ∧ cnt ≤ k ∧ i = .int .i64 k ∧ q = .int .i64 cnt ∧ Hid (wrote16 bs m.a 0 l = wrote16 bs a' cnt (l.drop k)) ∧ Hid (MGood (m.withA a') (N + k)) ∧ St w0 M wr (mP gm ga x' (m.withA a') ++ R)) (fun _ i _ => n - (intOf i).toNat)
  case atStart => exact ⟨0, 0, x, m.a, Nat.zero_le _, Nat.zero_le _, rfl, rfl, hid rfl, HG, hst⟩
  case round =>
    clear hst hm0 hW
    obtain ⟨k, cnt, x1, a1, hk, hck, rfl, rfl, HW, HGK, hst⟩ := hrel
    by_cases hlt : k < n
    · have d0 : decide ((k : Int) < (n : Int)) = true := decide_eq_true (by omega)
      obtain ⟨bb, off, rfl, hr⟩ := (HA.out _ (St.sub hst (List.sublist_append_right _ _))).at hlt
      obtain ⟨z, hz⟩ : ∃ z, z = l.getD k (0, 0) := ⟨_, rfl⟩
      have hb := addr_both hr (k := k) (by rw [HN.out]; exact hlt)
      rw [← hz] at hb
      have HAD := hid hb
      have HH := hid (wrote_cons (b := bs) (a := a1) (cnt := cnt) (l := l) (k := k) (by rw [HN.out]; exact hlt))
      rw [← hz] at HH
      obtain ⟨E, hE⟩ : ∃ E, E = a1.writeE z.1 z.2 bs := ⟨_, rfl⟩
      obtain ⟨A', hA'⟩ : ∃ A', A' = a1.write z.1 z.2 bs := ⟨_, rfl⟩
      have HE := hid hE.symm
      have HA' := hid hA'.symm
      rw [← hE, ← hA'] at HH
      have HG2 := hid (show MGood (m.withA A') (N + k + 1) from by rw [hA']; exact HGK.out.arr (HGK.out.sc.ok.write _ _ _) (Stays.write _ _ _ _))
      clear hz hb hr hE hA'
      by_cases e0 : E = 0
      · subst e0
        have HQ := hid (HW.out.trans (HH.out.trans (if_pos rfl)))
        clear HW HH
        go_wp2_with (first | go_big_skip | go_big_guard | (refine wl_index rfl rfl rfl rfl (hlt) ?_) | (refine wl_loadE rfl rfl rfl ?_; refine ⟨_, Loads.range (P := Tryz.prog) (cs := [.int .i64 z.1, .int .i64 z.2]) (TyA.out (n := 2)) HAD.out, ?_⟩) | (refine wl_alloc hst rfl rfl ?_; intro g11 w4 hst4; clear hst) | (refine wl_storeA [] hst4 rfl rfl rfl rfl rfl rfl rfl ?_; intro w5 hst5; clear hst4))
        have hX := hst5.drew
        clear hst5
        refine wp_region_held_drew (S := (fun w' => (loadVarH 3 ⟨g11, 0, none⟩).run Tryz.prog w' = .ok (.int .i64 z.1) w' ∧ (loadVarH 3 ⟨g11, 1, none⟩).run Tryz.prog w' = .ok (.int .i64 z.2) w' ∧ (loadVarH 23 ⟨gm, 0, none⟩).run Tryz.prog w' = .ok (.pointer (some ⟨ga, 0, none⟩)) w')) (by kernel_rfl) (by exact ⟨Loads.at (P := Tryz.prog) [] hX rfl, Loads.at (P := Tryz.prog) [] hX rfl, Loads.at (P := Tryz.prog) [_] hX rfl⟩) (fun hHeld => ?_)
        refine tkH 0 45 ?_ rfl (by kernel_rfl) (fun _ _ _ h => h) (by rfl) (by assumption) ?_ ?_
        rotate_left
        · intro w hSw; (try dsimp only at hSw); go_simp; try with_reducible rfl
        (try simp only [pmL, pnL, sc0, sc1])
        refine tkH 4 49 ?_ rfl (by kernel_rfl) (fun _ _ _ h => h) (by rfl) (by assumption) ?_ ?_
        rotate_left
        · intro w hSw; (try dsimp only at hSw); go_simp; try with_reducible rfl
        (try simp only [pmL, pnL, sc0, sc1])
        refine tkH 6 51 ?_ rfl (by kernel_rfl) (fun _ _ _ h => h) (by rfl) (by assumption) ?_ ?_
        rotate_left
        · intro w hSw; (try dsimp only at hSw); go_simp; try with_reducible rfl
        (try simp only [pmL, pnL, sc0, sc1])
        refine tkH 8 53 ?_ rfl (by kernel_rfl) (fun _ _ _ h => h) (by rfl) (by assumption) ?_ ?_
        rotate_left
        · intro w hSw; (try dsimp only at hSw); go_simp; try with_reducible rfl
        (try simp only [pmL, pnL, sc0, sc1])
        refine tkH 1 46 ?_ rfl (by kernel_rfl) (fun _ _ _ h => h) (by rfl) (by assumption) ?_ ?_
        rotate_left
        · intro w hSw; (try dsimp only at hSw); go_simp; try with_reducible rfl
        (try simp only [pmL, pnL, sc0, sc1])
        refine tkH 5 50 ?_ rfl (by kernel_rfl) (fun _ _ _ h => h) (by rfl) (by assumption) ?_ ?_
        rotate_left
        · intro w hSw; (try dsimp only at hSw); go_simp; try with_reducible rfl
        (try simp only [pmL, pnL, sc0, sc1])
        refine tkH 7 52 ?_ rfl (by kernel_rfl) (fun _ _ _ h => h) (by rfl) (by assumption) ?_ ?_
        rotate_left
        · intro w hSw; (try dsimp only at hSw); go_simp; try with_reducible rfl
        (try simp only [pmL, pnL, sc0, sc1])
        refine tkH 2 47 ?_ rfl (by kernel_rfl) (fun _ _ _ h => h) (by rfl) (by assumption) ?_ ?_
        rotate_left
        · intro w hSw; (try dsimp only at hSw); go_simp; try with_reducible rfl
        (try simp only [pmL, pnL, sc0, sc1])
        refine tkH 3 48 ?_ rfl (by kernel_rfl) (fun _ _ _ h => h) (by rfl) (by assumption) ?_ ?_
        rotate_left
        · intro w hSw; (try dsimp only at hSw); go_simp; try with_reducible rfl
        (try simp only [pmL, pnL, sc0, sc1])
        refine wpAnyH_ready (rs := [9]) (by kernel_rfl) (by simp) ?_
        refine (AllReadyH.cons (o := ⟨some 54, _, _, _, _, _⟩) rfl (fun K hK => ?_) AllReadyH.nil)
        rw [if_pos (by rfl)]
        go_simp
        go_at_call 44
        have HC := writeM_any (mid_in (P := [_]) (Bs := [_]) hX) HGK.out.sc.ok (HGK.out.st (by omega)) (HGK.out.ll (by omega)) z.1 z.2 bo 256 bc bs (HB.out.rd _ (St.sub hX (.cons _ (List.sublist_append_right _ _)))) HB.out.len (HB.out.off (P := arP ga x1 (m.withA a1).a) (St.tl (St.tl hX)))
        rw [show (m.withA a1).a = a1 from rfl, HE.out, HA'.out] at HC
        refine HC.mono ?_
        clear HC
        rintro _ w6 ⟨rfl, x2, h4⟩
        have hE : St w0 M w6 (.blk g11 83 [.int .i64 z.1, .int .i64 z.2] :: (mP gm ga x2 (m.withA A') ++ R)) := mid_out (P := [_]) (Bs := [_]) hX h4
        clear h4
        refine hK.out _ _ ?_ (fun hHeld => ?_)
        · exact ⟨Loads.at (P := Tryz.prog) [] hE rfl, Loads.at (P := Tryz.prog) [] hE rfl, Loads.at (P := Tryz.prog) [_] hE rfl⟩
        clear hK K
        (try simp only [pmL, pnL, sc0, sc1])
        refine wpAnyH_done (by kernel_rfl) ?_ _
        clear hHeld
        go_wp2_with (first | go_big_skip | go_big_guard | fail)
        go_roundw
        case rel => exact ⟨k + 1, cnt + 1, x2, A', by omega, by omega, by go_num, by go_num, HQ, HG2, St.tl hE⟩
        case measure => simp [intOf]; omega
      by_cases e1 : E = 10
      · subst e1
        have HQ := hid (HW.out.trans (HH.out.trans ((if_neg (by decide)).trans (if_pos rfl))))
        clear HW HH
        go_wp2_with (first | go_big_skip | go_big_guard | (refine wl_index rfl rfl rfl rfl (hlt) ?_) | (refine wl_loadE rfl rfl rfl ?_; refine ⟨_, Loads.range (P := Tryz.prog) (cs := [.int .i64 z.1, .int .i64 z.2]) (TyA.out (n := 2)) HAD.out, ?_⟩) | (refine wl_alloc hst rfl rfl ?_; intro g11 w4 hst4; clear hst) | (refine wl_storeA [] hst4 rfl rfl rfl rfl rfl rfl rfl ?_; intro w5 hst5; clear hst4))
        have hX := hst5.drew
        clear hst5
        refine wp_region_held_drew (S := (fun w' => (loadVarH 3 ⟨g11, 0, none⟩).run Tryz.prog w' = .ok (.int .i64 z.1) w' ∧ (loadVarH 3 ⟨g11, 1, none⟩).run Tryz.prog w' = .ok (.int .i64 z.2) w' ∧ (loadVarH 23 ⟨gm, 0, none⟩).run Tryz.prog w' = .ok (.pointer (some ⟨ga, 0, none⟩)) w')) (by kernel_rfl) (by exact ⟨Loads.at (P := Tryz.prog) [] hX rfl, Loads.at (P := Tryz.prog) [] hX rfl, Loads.at (P := Tryz.prog) [_] hX rfl⟩) (fun hHeld => ?_)
        refine tkH 0 45 ?_ rfl (by kernel_rfl) (fun _ _ _ h => h) (by rfl) (by assumption) ?_ ?_
        rotate_left
        · intro w hSw; (try dsimp only at hSw); go_simp; try with_reducible rfl
        (try simp only [pmL, pnL, sc0, sc1])
        refine tkH 4 49 ?_ rfl (by kernel_rfl) (fun _ _ _ h => h) (by rfl) (by assumption) ?_ ?_
        rotate_left
        · intro w hSw; (try dsimp only at hSw); go_simp; try with_reducible rfl
        (try simp only [pmL, pnL, sc0, sc1])
        refine tkH 6 51 ?_ rfl (by kernel_rfl) (fun _ _ _ h => h) (by rfl) (by assumption) ?_ ?_
        rotate_left
        · intro w hSw; (try dsimp only at hSw); go_simp; try with_reducible rfl
        (try simp only [pmL, pnL, sc0, sc1])
        refine tkH 8 53 ?_ rfl (by kernel_rfl) (fun _ _ _ h => h) (by rfl) (by assumption) ?_ ?_
        rotate_left
        · intro w hSw; (try dsimp only at hSw); go_simp; try with_reducible rfl
        (try simp only [pmL, pnL, sc0, sc1])
        refine tkH 1 46 ?_ rfl (by kernel_rfl) (fun _ _ _ h => h) (by rfl) (by assumption) ?_ ?_
        rotate_left
        · intro w hSw; (try dsimp only at hSw); go_simp; try with_reducible rfl
        (try simp only [pmL, pnL, sc0, sc1])
        refine tkH 5 50 ?_ rfl (by kernel_rfl) (fun _ _ _ h => h) (by rfl) (by assumption) ?_ ?_
        rotate_left
        · intro w hSw; (try dsimp only at hSw); go_simp; try with_reducible rfl
        (try simp only [pmL, pnL, sc0, sc1])
        refine tkH 7 52 ?_ rfl (by kernel_rfl) (fun _ _ _ h => h) (by rfl) (by assumption) ?_ ?_
        rotate_left
        · intro w hSw; (try dsimp only at hSw); go_simp; try with_reducible rfl
        (try simp only [pmL, pnL, sc0, sc1])
        refine tkH 2 47 ?_ rfl (by kernel_rfl) (fun _ _ _ h => h) (by rfl) (by assumption) ?_ ?_
        rotate_left
        · intro w hSw; (try dsimp only at hSw); go_simp; try with_reducible rfl
        (try simp only [pmL, pnL, sc0, sc1])
        refine tkH 3 48 ?_ rfl (by kernel_rfl) (fun _ _ _ h => h) (by rfl) (by assumption) ?_ ?_
        rotate_left
        · intro w hSw; (try dsimp only at hSw); go_simp; try with_reducible rfl
        (try simp only [pmL, pnL, sc0, sc1])
        refine wpAnyH_ready (rs := [9]) (by kernel_rfl) (by simp) ?_
        refine (AllReadyH.cons (o := ⟨some 54, _, _, _, _, _⟩) rfl (fun K hK => ?_) AllReadyH.nil)
        rw [if_pos (by rfl)]
        go_simp
        go_at_call 44
        have HC := writeM_any (mid_in (P := [_]) (Bs := [_]) hX) HGK.out.sc.ok (HGK.out.st (by omega)) (HGK.out.ll (by omega)) z.1 z.2 bo 256 bc bs (HB.out.rd _ (St.sub hX (.cons _ (List.sublist_append_right _ _)))) HB.out.len (HB.out.off (P := arP ga x1 (m.withA a1).a) (St.tl (St.tl hX)))
        rw [show (m.withA a1).a = a1 from rfl, HE.out, HA'.out] at HC
        refine HC.mono ?_
        clear HC
        rintro _ w6 ⟨rfl, x2, h4⟩
        have hE : St w0 M w6 (.blk g11 83 [.int .i64 z.1, .int .i64 z.2] :: (mP gm ga x2 (m.withA A') ++ R)) := mid_out (P := [_]) (Bs := [_]) hX h4
        clear h4
        refine hK.out _ _ ?_ (fun hHeld => ?_)
        · exact ⟨Loads.at (P := Tryz.prog) [] hE rfl, Loads.at (P := Tryz.prog) [] hE rfl, Loads.at (P := Tryz.prog) [_] hE rfl⟩
        clear hK K
        (try simp only [pmL, pnL, sc0, sc1])
        refine wpAnyH_done (by kernel_rfl) ?_ _
        clear hHeld
        go_wp2_with (first | go_big_skip | go_big_guard | fail)
        go_ret2
        exact ⟨x2, by rw [HQ.out]; rfl, by rw [HQ.out]; exact St.tl hE⟩
      have HQ := hid (HW.out.trans (HH.out.trans ((if_neg e0).trans (if_neg e1))))
      have f0 : (E == 0) = false := beq_eq_false_iff_ne.2 e0
      have f1 : (E == 10) = false := beq_eq_false_iff_ne.2 e1
      clear e0 e1
      clear HW HH
      go_wp2_with (first | go_big_skip | go_big_guard | (refine wl_index rfl rfl rfl rfl (hlt) ?_) | (refine wl_loadE rfl rfl rfl ?_; refine ⟨_, Loads.range (P := Tryz.prog) (cs := [.int .i64 z.1, .int .i64 z.2]) (TyA.out (n := 2)) HAD.out, ?_⟩) | (refine wl_alloc hst rfl rfl ?_; intro g11 w4 hst4; clear hst) | (refine wl_storeA [] hst4 rfl rfl rfl rfl rfl rfl rfl ?_; intro w5 hst5; clear hst4))
      have hX := hst5.drew
      clear hst5
      refine wp_region_held_drew (S := (fun w' => (loadVarH 3 ⟨g11, 0, none⟩).run Tryz.prog w' = .ok (.int .i64 z.1) w' ∧ (loadVarH 3 ⟨g11, 1, none⟩).run Tryz.prog w' = .ok (.int .i64 z.2) w' ∧ (loadVarH 23 ⟨gm, 0, none⟩).run Tryz.prog w' = .ok (.pointer (some ⟨ga, 0, none⟩)) w')) (by kernel_rfl) (by exact ⟨Loads.at (P := Tryz.prog) [] hX rfl, Loads.at (P := Tryz.prog) [] hX rfl, Loads.at (P := Tryz.prog) [_] hX rfl⟩) (fun hHeld => ?_)
      refine tkH 0 45 ?_ rfl (by kernel_rfl) (fun _ _ _ h => h) (by rfl) (by assumption) ?_ ?_
      rotate_left
      · intro w hSw; (try dsimp only at hSw); go_simp; try with_reducible rfl
      (try simp only [pmL, pnL, sc0, sc1])
      refine tkH 4 49 ?_ rfl (by kernel_rfl) (fun _ _ _ h => h) (by rfl) (by assumption) ?_ ?_
      rotate_left
      · intro w hSw; (try dsimp only at hSw); go_simp; try with_reducible rfl
      (try simp only [pmL, pnL, sc0, sc1])
      refine tkH 6 51 ?_ rfl (by kernel_rfl) (fun _ _ _ h => h) (by rfl) (by assumption) ?_ ?_
      rotate_left
      · intro w hSw; (try dsimp only at hSw); go_simp; try with_reducible rfl
      (try simp only [pmL, pnL, sc0, sc1])
      refine tkH 8 53 ?_ rfl (by kernel_rfl) (fun _ _ _ h => h) (by rfl) (by assumption) ?_ ?_
      rotate_left
      · intro w hSw; (try dsimp only at hSw); go_simp; try with_reducible rfl
      (try simp only [pmL, pnL, sc0, sc1])
      refine tkH 1 46 ?_ rfl (by kernel_rfl) (fun _ _ _ h => h) (by rfl) (by assumption) ?_ ?_
      rotate_left
      · intro w hSw; (try dsimp only at hSw); go_simp; try with_reducible rfl
      (try simp only [pmL, pnL, sc0, sc1])
      refine tkH 5 50 ?_ rfl (by kernel_rfl) (fun _ _ _ h => h) (by rfl) (by assumption) ?_ ?_
      rotate_left
      · intro w hSw; (try dsimp only at hSw); go_simp; try with_reducible rfl
      (try simp only [pmL, pnL, sc0, sc1])
      refine tkH 7 52 ?_ rfl (by kernel_rfl) (fun _ _ _ h => h) (by rfl) (by assumption) ?_ ?_
      rotate_left
      · intro w hSw; (try dsimp only at hSw); go_simp; try with_reducible rfl
      (try simp only [pmL, pnL, sc0, sc1])
      refine tkH 2 47 ?_ rfl (by kernel_rfl) (fun _ _ _ h => h) (by rfl) (by assumption) ?_ ?_
      rotate_left
      · intro w hSw; (try dsimp only at hSw); go_simp; try with_reducible rfl
      (try simp only [pmL, pnL, sc0, sc1])
      refine tkH 3 48 ?_ rfl (by kernel_rfl) (fun _ _ _ h => h) (by rfl) (by assumption) ?_ ?_
      rotate_left
      · intro w hSw; (try dsimp only at hSw); go_simp; try with_reducible rfl
      (try simp only [pmL, pnL, sc0, sc1])
      refine wpAnyH_ready (rs := [9]) (by kernel_rfl) (by simp) ?_
      refine (AllReadyH.cons (o := ⟨some 54, _, _, _, _, _⟩) rfl (fun K hK => ?_) AllReadyH.nil)
      rw [if_pos (by rfl)]
      go_simp
      go_at_call 44
      have HC := writeM_any (mid_in (P := [_]) (Bs := [_]) hX) HGK.out.sc.ok (HGK.out.st (by omega)) (HGK.out.ll (by omega)) z.1 z.2 bo 256 bc bs (HB.out.rd _ (St.sub hX (.cons _ (List.sublist_append_right _ _)))) HB.out.len (HB.out.off (P := arP ga x1 (m.withA a1).a) (St.tl (St.tl hX)))
      rw [show (m.withA a1).a = a1 from rfl, HE.out, HA'.out] at HC
      refine HC.mono ?_
      clear HC
      rintro _ w6 ⟨rfl, x2, h4⟩
      have hE : St w0 M w6 (.blk g11 83 [.int .i64 z.1, .int .i64 z.2] :: (mP gm ga x2 (m.withA A') ++ R)) := mid_out (P := [_]) (Bs := [_]) hX h4
      clear h4
      refine hK.out _ _ ?_ (fun hHeld => ?_)
      · exact ⟨Loads.at (P := Tryz.prog) [] hE rfl, Loads.at (P := Tryz.prog) [] hE rfl, Loads.at (P := Tryz.prog) [_] hE rfl⟩
      clear hK K
      (try simp only [pmL, pnL, sc0, sc1])
      refine wpAnyH_done (by kernel_rfl) ?_ _
      clear hHeld
      go_wp2_with (first | go_big_skip | go_big_guard | fail)
      go_roundw
      case rel => exact ⟨k + 1, cnt, x2, A', by omega, by omega, by go_num, rfl, HQ, HG2, St.tl hE⟩
      case measure => simp [intOf]; omega
    · obtain rfl : k = n := by omega
      have d0 : decide ((k : Int) < (k : Int)) = false := decide_eq_false (by omega)
      have HQ := hid (show wrote16 bs m.a 0 l = some16 cnt a1 from HW.out.trans (by rw [← HN.out, List.drop_length]; rfl))
      by_cases hc : cnt = 0
      · subst hc
        have HQ2 := hid (HQ.out.trans (show some16 0 a1 = ⟨13, 0, a1⟩ from rfl))
        clear HQ
        rw [show ((0 : Nat) : Int) = 0 from rfl]
        go_wp2_with (first | go_big_skip | go_big_guard | (go_at_call 65; refine (some16_any 0 (by omega) _).mono ?_; rw [if_pos rfl]; rintro _ w9 ⟨rfl, h4⟩; have hst9 := St.call0 hst h4; clear h4 hst))
        go_ret2
        exact ⟨x1, by rw [HQ2.out]; rfl, by rw [HQ2.out]; exact hst9⟩
      · have HC0 := hid hc
        have HQ2 := hid (HQ.out.trans (show some16 cnt a1 = ⟨0, cnt, a1⟩ by unfold some16; rw [if_neg hc]))
        clear HQ
        go_wp2_with (first | go_big_skip | go_big_guard | (go_at_call 65; refine (some16_any cnt (by omega) _).mono ?_; rw [if_neg HC0.out]; rintro _ w9 ⟨rfl, h4⟩; have hst9 := St.call0 hst h4; clear h4 hst))
        go_ret2
        exact ⟨x1, by rw [HQ2.out]; rfl, by rw [HQ2.out]; exact hst9⟩
theorem put_any {w0 w : World} {M : List Nat} {R : List HA} {gm ga : Nat} {x : GA} {m : MV} {N : Nat} (hS : St w0 M w (mP gm ga x m ++ R)) (hg : MGood m N) (ao : Option Addr) (n c : Nat) (l : List (Int × Int)) (hA : ∀ w, St w0 M w R → Rd w (.slice ao n c) 2 n (addrsV l)) (hn : l.length = n) (bo : Option Addr) (bn bc : Nat) (bs : List UInt8) (hb : GB w0 M R (.slice bo bn bc) bn bs) (hN : N ≤ 800000) :
    Calls Tryz.prog 24 #[PM gm, .slice ao n c, .slice bo bn bc] w fun e w' => ∃ x', e = .returned (.tuple #[.int .i64 (m.put l bs).n, .int .i64 (m.put l bs).er]) ∧ St w0 M w' (mP gm ga x' (m.withA (m.put l bs).a) ++ R) := by
  by_cases h1 : bs.length = 256
  · by_cases h2 : n < 1
    · exact put_few hS hg ao n c l hA hn bo bn bc bs hb hN h1 h2
    · by_cases h3 : 3 < n
      · exact put_many hS hg ao n c l hA hn bo bn bc bs hb hN h1 h2 h3
      · cases h4 : m.lies l
        · exact put_off hS hg ao n c l hA hn bo bn bc bs hb hN h1 h2 h3 h4
        · cases h5 : apartB l
          · exact put_near hS hg ao n c l hA hn bo bn bc bs hb hN h1 h2 h3 h4 h5
          · exact put_ok hS hg ao n c l hA hn bo bn bc bs hb hN h1 h2 h3 h4 h5
  · exact put_len hS hg ao n c l hA hn bo bn bc bs hb hN h1
end
end Go.Proofs.YtmdfbdfijnmhkaaGreat
namespace Go.Proofs.YtmdfbdfijnmhkaaGreat
set_option linter.unusedVariables false
set_option linter.unusedSimpArgs false
open Go.RowKit Hp
attribute [local irreducible] Go.Calls Go.wpList
set_option maxRecDepth 100000
set_option maxHeartbeats 4000000
theorem flushed_step {d k cnt : Nat} {a : AR} (hk : k < d) : flushed16 d (d - k) a cnt = (if a.up (k : Int) = false then flushed16 d (d - (k + 1)) a cnt
    else if a.flushE (k : Int) = 0 then flushed16 d (d - (k + 1)) (a.flush (k : Int)) (cnt + 1)
    else if a.flushE (k : Int) = 10 then ⟨10, 0, a.flush (k : Int)⟩
    else flushed16 d (d - (k + 1)) (a.flush (k : Int)) cnt) := by
  have e : d - k = (d - (k + 1)) + 1 := by omega
  rw [e]
  conv => lhs; unfold flushed16
  have e2 : d - (d - (k + 1) + 1) = k := by omega
  rw [e2]
theorem flush_out {w0 w : World} {M : List Nat} {R : List HA} {gm ga : Nat} {x : GA} {m : MV} {N : Nat} (hS : St w0 M w (mP gm ga x m ++ R)) (hg : MGood m N) (hN : N ≤ 800000) (h1 : m.a.out = true) :
    Calls Tryz.prog 26 #[PM gm] w fun e w' => ∃ x', e = .returned (.tuple #[.int .i64 m.flush.n, .int .i64 m.flush.er]) ∧ St w0 M w' (mP gm ga x' (m.withA m.flush.a) ++ R) := by
  have hr : m.flush = ⟨10, 0, m.a⟩ := by unfold MV.flush; rw [h1]; rfl
  rw [hr]
  have hst := hS
  have HG := hid hg
  have HO := hid h1
  clear hS hg h1 hr
  unfold PM
  go_enter Tryz.func26, Tryz.ntmps26
  go_wp2_with (first | go_big_skip | go_big_guard | (go_at_call 62; refine (mirNone_any (St.mat hst HG.out.sc.ok.d0)).mono ?_; rintro _ w2 ⟨rfl, h4⟩; replace hst := St.call0 hst h4; clear h4) | (go_at_call 66; have HC := broken_any hst HG.out (by omega); rw [HO.out] at HC; refine HC.mono ?_; clear HC; rintro _ w2 ⟨rfl, h4⟩; replace hst := h4; clear h4))
  go_ret2
  exact ⟨x, rfl, hst⟩
theorem flush_on {w0 w : World} {M : List Nat} {R : List HA} {gm ga : Nat} {x : GA} {m : MV} {N : Nat} (hS : St w0 M w (mP gm ga x m ++ R)) (hg : MGood m N) (hN : N ≤ 800000) (h1 : m.a.out = false) :
    Calls Tryz.prog 26 #[PM gm] w fun e w' => ∃ x', e = .returned (.tuple #[.int .i64 m.flush.n, .int .i64 m.flush.er]) ∧ St w0 M w' (mP gm ga x' (m.withA m.flush.a) ++ R) := by
  have hr : m.flush = flushed16 m.a.devs.length m.a.devs.length m.a 0 := by unfold MV.flush; rw [h1]; rfl
  rw [hr]
  have hst := hS
  have HG := hid hg
  have HO := hid h1
  obtain ⟨d, hd⟩ : ∃ d, d = m.a.devs.length := ⟨_, rfl⟩
  have HD := hid hd
  have hd8 : d ≤ 8 := by rw [hd]; exact hg.sc.ok.dn
  rw [← hd]
  obtain ⟨F, hF⟩ : ∃ F, F = flushed16 d d m.a 0 := ⟨_, rfl⟩
  have HF := hid hF
  rw [← hF]
  clear hS hg h1 hr hd hF
  unfold PM
  go_enter Tryz.func26, Tryz.ntmps26
  go_wp2_with (first | go_big_skip | go_big_guard | (go_at_call 62; refine (mirNone_any (St.mat hst HG.out.sc.ok.d0)).mono ?_; rintro _ w2 ⟨rfl, h4⟩; replace hst := St.call0 hst h4; clear h4) | (go_at_call 66; have HC := broken_any hst HG.out (by omega); rw [HO.out] at HC; refine HC.mono ?_; clear HC; rintro _ w2 ⟨rfl, h4⟩; replace hst := h4; clear h4) | (refine wl_loadE rfl rfl rfl ?_; refine ⟨_, Loads.at (P := Tryz.prog) [] hst rfl, ?_⟩) | (go_at_call 67; have HC := devs_any (St.mat hst HG.out.sc.ok.d0).arr.toArrAt; rw [← HD.out] at HC; refine HC.mono ?_; clear HC; rintro _ w3 ⟨rfl, h4⟩; replace hst := St.call0 hst h4; clear h4))
  go_loopw [4, 17] (fun q i wr => ∃ (k cnt : Nat) (x' : GA) (a' : AR), k ≤ d ∧ cnt ≤ k ∧ i = .int .i64 k ∧ q = .int .i64 cnt ∧ Hid (F = flushed16 d (d - k) a' cnt) ∧ Hid (MGood (m.withA a') (N + k)) ∧ St w0 M wr (mP gm ga x' (m.withA a') ++ R)) (fun _ i _ => d - (intOf i).toNat)
  case atStart => exact ⟨0, 0, x, m.a, Nat.zero_le _, Nat.zero_le _, rfl, rfl, HF, HG, hst⟩
  case round =>
    clear hst
    obtain ⟨k, cnt, x1, a1, hk, hck, rfl, rfl, HW, HGK, hst⟩ := hrel
    by_cases hlt : k < d
    · have d0 : decide ((k : Int) < (d : Int)) = true := decide_eq_true (by omega)
      have HH := hid (flushed_step (a := a1) (cnt := cnt) hlt)
      cases hup : a1.up (k : Int)
      · have HUP := hid hup
        have HQ := hid (HW.out.trans (HH.out.trans (if_pos hup)))
        clear HW HH hup
        go_wp2_with (first | go_big_skip | go_big_guard | (refine wl_loadE rfl rfl rfl ?_; refine ⟨_, Loads.at (P := Tryz.prog) [] hst rfl, ?_⟩) | (go_at_call 42; refine (up_any (a := a1) (St.mat hst HGK.out.sc.ok.d0).arr.toArrAt (k : Int)).mono ?_; rw [HUP.out]; rintro _ w3 ⟨rfl, h4⟩; have hst3 := St.call0 hst h4; clear h4 hst))
        go_roundw
        case rel => exact ⟨k + 1, cnt, x1, a1, by omega, by omega, by go_num, rfl, HQ, hid (HGK.out.mono (by omega)), hst3⟩
        case measure => simp [intOf]; omega
      · have HUP := hid hup
        obtain ⟨E, hE⟩ : ∃ E, E = a1.flushE (k : Int) := ⟨_, rfl⟩
        obtain ⟨A', hA'⟩ : ∃ A', A' = a1.flush (k : Int) := ⟨_, rfl⟩
        have HE := hid hE.symm
        have HA' := hid hA'.symm
        rw [← hE, ← hA', hup] at HH
        have HG2 := hid (show MGood (m.withA A') (N + k + 1) from by rw [hA']; exact HGK.out.arr (HGK.out.sc.ok.flush _) (Stays.flush _ _))
        have HW2 := hid (HW.out.trans (HH.out.trans (if_neg (by decide))))
        clear HW HH hup hE hA'
        by_cases e0 : E = 0
        · subst e0
          have HQ := hid (HW2.out.trans (if_pos rfl))
          clear HW2
          go_wp2_with (first | go_big_skip | go_big_guard | (refine wl_loadE rfl rfl rfl ?_; first | refine ⟨_, Loads.at (P := Tryz.prog) [] hst rfl, ?_⟩ | refine ⟨_, Loads.at (P := Tryz.prog) [] hst3 rfl, ?_⟩) | (go_at_call 42; refine (up_any (a := a1) (St.mat hst HGK.out.sc.ok.d0).arr.toArrAt (k : Int)).mono ?_; rw [HUP.out]; rintro _ w3 ⟨rfl, h4⟩; have hst3 := St.call0 hst h4; clear h4 hst) | (go_at_call 52; have HC := flushM_any (mid_in (P := []) (Bs := [_]) hst3) HGK.out.sc.ok (HGK.out.st (by omega)) (HGK.out.ll (by omega)) (k : Int); rw [show (m.withA a1).a = a1 from rfl, HE.out, HA'.out] at HC; refine HC.mono ?_; clear HC; rintro _ w4 ⟨rfl, x2, h4⟩; have hst4 : St w0 M w4 (mP gm ga x2 (m.withA A') ++ R) := mid_out (P := []) (Bs := [_]) hst3 h4; clear h4 hst3))
          go_roundw
          case rel => exact ⟨k + 1, cnt + 1, x2, A', by omega, by omega, by go_num, by go_num, HQ, HG2, hst4⟩
          case measure => simp [intOf]; omega
        by_cases e1 : E = 10
        · subst e1
          have HQ := hid (HW2.out.trans ((if_neg (by decide)).trans (if_pos rfl)))
          clear HW2
          go_wp2_with (first | go_big_skip | go_big_guard | (refine wl_loadE rfl rfl rfl ?_; first | refine ⟨_, Loads.at (P := Tryz.prog) [] hst rfl, ?_⟩ | refine ⟨_, Loads.at (P := Tryz.prog) [] hst3 rfl, ?_⟩) | (go_at_call 42; refine (up_any (a := a1) (St.mat hst HGK.out.sc.ok.d0).arr.toArrAt (k : Int)).mono ?_; rw [HUP.out]; rintro _ w3 ⟨rfl, h4⟩; have hst3 := St.call0 hst h4; clear h4 hst) | (go_at_call 52; have HC := flushM_any (mid_in (P := []) (Bs := [_]) hst3) HGK.out.sc.ok (HGK.out.st (by omega)) (HGK.out.ll (by omega)) (k : Int); rw [show (m.withA a1).a = a1 from rfl, HE.out, HA'.out] at HC; refine HC.mono ?_; clear HC; rintro _ w4 ⟨rfl, x2, h4⟩; have hst4 : St w0 M w4 (mP gm ga x2 (m.withA A') ++ R) := mid_out (P := []) (Bs := [_]) hst3 h4; clear h4 hst3))
          go_ret2
          exact ⟨x2, by rw [HQ.out]; rfl, by rw [HQ.out]; exact hst4⟩
        have HQ := hid (HW2.out.trans ((if_neg e0).trans (if_neg e1)))
        have f0 : (E == 0) = false := beq_eq_false_iff_ne.2 e0
        have f1 : (E == 10) = false := beq_eq_false_iff_ne.2 e1
        clear e0 e1
        clear HW2
        go_wp2_with (first | go_big_skip | go_big_guard | (refine wl_loadE rfl rfl rfl ?_; first | refine ⟨_, Loads.at (P := Tryz.prog) [] hst rfl, ?_⟩ | refine ⟨_, Loads.at (P := Tryz.prog) [] hst3 rfl, ?_⟩) | (go_at_call 42; refine (up_any (a := a1) (St.mat hst HGK.out.sc.ok.d0).arr.toArrAt (k : Int)).mono ?_; rw [HUP.out]; rintro _ w3 ⟨rfl, h4⟩; have hst3 := St.call0 hst h4; clear h4 hst) | (go_at_call 52; have HC := flushM_any (mid_in (P := []) (Bs := [_]) hst3) HGK.out.sc.ok (HGK.out.st (by omega)) (HGK.out.ll (by omega)) (k : Int); rw [show (m.withA a1).a = a1 from rfl, HE.out, HA'.out] at HC; refine HC.mono ?_; clear HC; rintro _ w4 ⟨rfl, x2, h4⟩; have hst4 : St w0 M w4 (mP gm ga x2 (m.withA A') ++ R) := mid_out (P := []) (Bs := [_]) hst3 h4; clear h4 hst3))
        go_roundw
        case rel => exact ⟨k + 1, cnt, x2, A', by omega, by omega, by go_num, rfl, HQ, HG2, hst4⟩
        case measure => simp [intOf]; omega
    · obtain rfl : k = d := by omega
      have d0 : decide ((k : Int) < (k : Int)) = false := decide_eq_false (by omega)
      have HQ := hid (show F = some16 cnt a1 from HW.out.trans (by rw [Nat.sub_self]; rfl))
      by_cases hc : cnt = 0
      · subst hc
        have HQ2 := hid (HQ.out.trans (show some16 0 a1 = ⟨13, 0, a1⟩ from rfl))
        clear HQ
        rw [show ((0 : Nat) : Int) = 0 from rfl]
        go_wp2_with (first | go_big_skip | go_big_guard | (go_at_call 65; refine (some16_any 0 (by omega) _).mono ?_; rw [if_pos rfl]; rintro _ w9 ⟨rfl, h4⟩; have hst9 := St.call0 hst h4; clear h4 hst))
        go_ret2
        exact ⟨x1, by rw [HQ2.out]; rfl, by rw [HQ2.out]; exact hst9⟩
      · have HC0 := hid hc
        have HQ2 := hid (HQ.out.trans (show some16 cnt a1 = ⟨0, cnt, a1⟩ by unfold some16; rw [if_neg hc]))
        clear HQ
        go_wp2_with (first | go_big_skip | go_big_guard | (go_at_call 65; refine (some16_any cnt (by omega) _).mono ?_; rw [if_neg HC0.out]; rintro _ w9 ⟨rfl, h4⟩; have hst9 := St.call0 hst h4; clear h4 hst))
        go_ret2
        exact ⟨x1, by rw [HQ2.out]; rfl, by rw [HQ2.out]; exact hst9⟩
theorem mflush_any {w0 w : World} {M : List Nat} {R : List HA} {gm ga : Nat} {x : GA} {m : MV} {N : Nat} (hS : St w0 M w (mP gm ga x m ++ R)) (hg : MGood m N) (hN : N ≤ 800000) :
    Calls Tryz.prog 26 #[PM gm] w fun e w' => ∃ x', e = .returned (.tuple #[.int .i64 m.flush.n, .int .i64 m.flush.er]) ∧ St w0 M w' (mP gm ga x' (m.withA m.flush.a) ++ R) := by
  cases h1 : m.a.out
  · exact flush_on hS hg hN h1
  · exact flush_out hS hg hN h1
end Go.Proofs.YtmdfbdfijnmhkaaGreat
namespace Go.Proofs.YtmdfbdfijnmhkaaGreat
set_option linter.unusedVariables false
set_option linter.unusedSimpArgs false
open Go.RowKit Hp
attribute [local irreducible] Go.Calls Go.wpList
set_option maxRecDepth 100000
set_option maxHeartbeats 8000000
theorem fold_succ {α : Type} {f : α → Int × Int → α} {c : α} {l : List (Int × Int)} {k : Nat} (hk : k < l.length) : (l.take (k + 1)).foldl f c = f ((l.take k).foldl f c) (l.getD k (0, 0)) := by
  rw [List.take_succ_eq_append_getElem hk, List.foldl_append, List.getD_eq_getElem?_getD, List.getElem?_eq_getElem hk]
  rfl
theorem look_succ {S : List UInt8} {c : CR} {l : List (Int × Int)} {k : Nat} (hk : k < l.length) : (l.take (k + 1)).foldl (CR.next S) c = ((l.take k).foldl (CR.next S) c).next S (l.getD k (0, 0)) := by
  rw [List.take_succ_eq_append_getElem hk, List.foldl_append, List.getD_eq_getElem?_getD, List.getElem?_eq_getElem hk]
  rfl
theorem look_stays {S : List UInt8} : ∀ {l : List (Int × Int)} {c : CR}, c.out = true → l.foldl (CR.next S) c = c
  | [], _, _ => rfl
  | z :: l, c, h => by
    rw [List.foldl_cons, show c.next S z = c by unfold CR.next; rw [if_pos h]]
    exact look_stays h
theorem scan_stop {S : List UInt8} {c : CR} {l : List (Int × Int)} {k : Nat} (hk : k < l.length) (h : (((l.take k).foldl (CR.next S) c).next S (l.getD k (0, 0))).out = true) : l.foldl (CR.next S) c = ((l.take k).foldl (CR.next S) c).next S (l.getD k (0, 0)) := by
  rw [← look_succ hk] at h ⊢
  conv => lhs; rw [← List.take_append_drop (k + 1) l, List.foldl_append]
  exact look_stays h
def sX (g9 g8 g7 g5 g4 g3 : Nat) (pc : List Value) (R : List HA) (wv bv : Value) (c : CR) : List HA :=
  .row wv 83 2 c.ill.length (addrsV c.ill) :: .blk g9 28 [bv] :: .rowP isB bv 5 1 c.b.length (bytesV c.b) :: .blk g8 30 [wv] :: .blk g7 59 [.int .i64 c.good, .int .i64 0, .int .i64 0, .int .i64 c.lost] :: .blk g5 37 [.int .i64 0] :: .blk g4 59 [.int .i64 0, .int .i64 0, .int .i64 0, .int .i64 0] :: .blk g3 34 pc :: R
def sXp (g9 g8 g7 g5 g4 g3 : Nat) (pc : List Value) (R : List HA) (S : List UInt8) (l : List (Int × Int)) (c0 : CR) (k : Nat) (m : MV) (X : List HA) : Prop :=
  ∃ wv bv c, (c.good ≤ k ∧ c.lost ≤ k ∧ c.ill.length ≤ k) ∧ c = (l.take k).foldl (CR.next S) c0 ∧ c.out = false ∧ c.m = m ∧ X = sX g9 g8 g7 g5 g4 g3 pc R wv bv c
def sIx (w0 : World) (M : List Nat) (gm ga : Nat) (x : GA) (g5 g4 : Nat) (R : List HA) (F : CR) (cc : Code) (W : World) : Prop :=
  cc = .ret ∧ F.out = true ∧ St w0 M W (.blk g5 37 [.int .i64 10] :: .blk g4 59 [.int .i64 0, .int .i64 0, .int .i64 0, .int .i64 0] :: (mP gm ga x F.m ++ R))
def sB (w0 : World) (M : List Nat) (gm ga : Nat) (x : GA) (bx : List HA) (l : List (Int × Int)) (but : Int) (S : List UInt8) (N0 : Nat) (Xp : Nat → MV → List HA → Prop) (A : Act) (y : YV) (a' : Act) (W : World) : Prop :=
  ∃ g10 g11, a' = { tmps := (((A.tmps.setIfInBounds 24 (cE l S y).1).setIfInBounds 25 (cE l S y).2).setIfInBounds 10 (.pointer (some ⟨g10, 0, none⟩))).setIfInBounds 11 (.pointer (some ⟨g11, 0, none⟩)), defers := [] } ∧
    y.k < l.length ∧ (y.pl l).1 ≠ but ∧ MGood y.m (N0 + y.k) ∧ ∃ X, Xp y.k y.m X ∧
    St w0 M W (.blk g11 128 [.int .i64 (y.m.kind (y.pl l).1 (y.pl l).2 S), y.v] :: .blk g10 83 [.int .i64 (y.pl l).1, .int .i64 (y.pl l).2] :: .rowP isB y.v 5 1 (y.B l S).length (bytesV (y.B l S)) :: (mP gm ga x (y.next l S) ++ (bx ++ X)))
theorem s_back {w0 w : World} {M : List Nat} {a1 a2 a3 a4 a5 a6 a7 a8 : HA} {P B R T : List HA} (h : St w0 M w (a1 :: a2 :: a3 :: a4 :: a5 :: a6 :: a7 :: a8 :: (T ++ (P ++ (B ++ R))))) : St w0 M w (P ++ (B ++ (a1 :: a2 :: a3 :: a4 :: a5 :: a6 :: a7 :: a8 :: R))) := by
  have h1 : St w0 M w ([a1, a2, a3, a4, a5, a6, a7, a8] ++ ([] ++ (P ++ (B ++ R)))) := St.sub h (.cons_cons _ (.cons_cons _ (.cons_cons _ (.cons_cons _ (.cons_cons _ (.cons_cons _ (.cons_cons _ (.cons_cons _ (List.sublist_append_right _ _)))))))))
  exact St.perm h1 (pull4 [] P B [a1, a2, a3, a4, a5, a6, a7, a8] R).symm
theorem s_new {w0 w : World} {M : List Nat} {a1 a2 a3 a4 a5 a6 a7 a8 b1 b2 rp : HA} {P B R : List HA} (h : St w0 M w (a1 :: a2 :: a3 :: a4 :: a5 :: a6 :: a7 :: a8 :: b1 :: b2 :: rp :: (P ++ (B ++ R)))) : St w0 M w (P ++ (B ++ (a1 :: a2 :: rp :: a4 :: a5 :: a6 :: a7 :: a8 :: R))) := by
  have h1 : St w0 M w ([a1, a2] ++ ([a4, a5, a6, a7, a8] ++ rp :: (P ++ (B ++ R)))) := St.sub h (.cons_cons _ (.cons_cons _ (.cons _ (.cons_cons _ (.cons_cons _ (.cons_cons _ (.cons_cons _ (.cons_cons _ (.cons _ (.cons _ (List.Sublist.refl _)))))))))))
  have h2 : St w0 M w ([a1, a2] ++ (rp :: ([a4, a5, a6, a7, a8] ++ (P ++ (B ++ R))))) := St.perm h1 (List.Perm.append_left _ List.perm_middle)
  have h3 : St w0 M w ([a1, a2, rp, a4, a5, a6, a7, a8] ++ ([] ++ (P ++ (B ++ R)))) := h2
  exact St.perm h3 (pull4 [] P B [a1, a2, rp, a4, a5, a6, a7, a8] R).symm
theorem s_out {w0 w : World} {M : List Nat} {a1 a2 a3 a4 a5 a6 a7 a8 : HA} {P B R T : List HA} (h : St w0 M w (a1 :: a2 :: a3 :: a4 :: a5 :: a6 :: a7 :: a8 :: (T ++ (P ++ (B ++ R))))) : St w0 M w (a6 :: a7 :: (P ++ R)) := by
  exact St.sub h (.cons _ (.cons _ (.cons _ (.cons _ (.cons _ (.cons_cons _ (.cons_cons _ (.cons _ (show (P ++ R).Sublist (T ++ (P ++ (B ++ R))) from (List.Sublist.append_left (List.sublist_append_right B R) P).trans (List.sublist_append_right T _))))))))))
theorem mbytes_slice {w0 w : World} {M : List Nat} {A P B R : List HA} {g9 g8 g7 g5 g4 g3 : Nat} {pc : List Value} {wv bv : Value} {c : CR} (h : St w0 M w (A ++ (P ++ (B ++ sX g9 g8 g7 g5 g4 g3 pc R wv bv c)))) : (∃ a k, wv = .slice a c.ill.length k) ∧ ∃ a k, bv = .slice a c.b.length k := by
  have h1 : St w0 M w (sX g9 g8 g7 g5 g4 g3 pc R wv bv c) := St.sub h (((List.sublist_append_right _ _).trans (List.sublist_append_right _ _)).trans (List.sublist_append_right _ _))
  exact ⟨St.rowSliceAt [] h1, St.rowPSlice [_, _] h1⟩
def c0of (m : MV) : CR := ⟨0, 0, [], [], m, false⟩
end Go.Proofs.YtmdfbdfijnmhkaaGreat
namespace Go.Proofs.YtmdfbdfijnmhkaaGreat
set_option linter.unusedVariables false
set_option linter.unusedSimpArgs false
open Go.RowKit Hp
attribute [local irreducible] Go.Calls Go.wpList
set_option maxRecDepth 100000
set_option maxHeartbeats 8000000
def SR.cells (s : SR) : List Value := [.int .i64 s.good, .int .i64 s.he, .int .i64 s.bad, .int .i64 s.lost]
theorem lies_dev {m : MV} {l : List (Int × Int)} (h : m.lies l = true) {k : Nat} (hk : k < l.length) : (l.getD k (0, 0)).1 ≠ -1 := by
  unfold MV.lies at h
  rw [List.all_eq_true] at h
  have := h _ (List.getElem_mem hk)
  rw [in_parts] at this
  have h2 := of_decide_eq_true this
  rw [List.getD_eq_getElem?_getD, List.getElem?_eq_getElem hk]
  show (l[k]).1 ≠ -1
  omega
theorem ask_lies {m : MV} {p : PV} (h : m.askE p = 0) : m.lies p.l = true := by
  unfold MV.askE at h
  split at h
  · rename_i h1
    exact (Bool.and_eq_true_iff.1 h1).2
  · cases h
section
attribute [local go_sem ↓] loadedBs8 loadedAs8
attribute [local go_sem] Oper.semAt_some
theorem scan_odd {w0 w : World} {M : List Nat} {R : List HA} {gm ga : Nat} {x : GA} {m : MV} {N : Nat} (hS : St w0 M w (mP gm ga x m ++ R)) (hg : MGood m N) (ao : Option Addr) (n c : Nat) (l : List (Int × Int)) (b v : Int) (S : List UInt8) (hL : L32 S) (hn : l.length = n) (hA : ∀ w, St w0 M w R → Rd w (.slice ao n c) 2 n (addrsV l)) (hN : N + 2 * n ≤ 900000) (h1 : m.askE (PVof ao n c l b v S) ≠ 0) :
    Calls Tryz.prog 27 #[PM gm, .agg (ptrCells (.slice ao n c) b v S).toArray] w fun e w' => ∃ x', e = .returned (.tuple #[.agg (List.toArray (m.scan (PVof ao n c l b v S)).cells), .int .i64 (m.scan (PVof ao n c l b v S)).er]) ∧ St w0 M w' (mP gm ga x' (m.scan (PVof ao n c l b v S)).m ++ R) := by
  have hr : m.scan (PVof ao n c l b v S) = ⟨m.askE (PVof ao n c l b v S), 0, 0, 0, 0, m⟩ := by unfold MV.scan; rw [if_pos h1]
  rw [hr]
  have hst := hS
  have HG := hid hg
  have HL := hid hL
  have Hn := hid hn
  have HA := hid hA
  obtain ⟨E, hE⟩ : ∃ E, E = m.askE (PVof ao n c l b v S) := ⟨_, rfl⟩
  rw [← hE] at h1 ⊢
  have HAS : Hid (m.askE ⟨.slice ao n c, l, b, v, S⟩ = E) := hid hE.symm
  have d1 : (E != 0) = true := by simpa using h1
  clear hS hg hL hn hA hr hE h1
  unfold PM
  go_enter Tryz.func27, Tryz.ntmps27
  go_wp2_with (first | go_big_skip | go_big_guard | (refine wl_boxA hst rfl rfl rfl ?_; intro g3 w1 hst1; clear hst) | (refine wl_alloc (T := 59) hst1 rfl rfl ?_; intro g4 w2 hst2; clear hst1) | (refine wl_alloc (T := 37) hst2 rfl rfl ?_; intro g5 w3 hst3; clear hst2) | (refine wl_loadE rfl rfl rfl ?_; refine ⟨_, Loads.atA (P := Tryz.prog) (ptrCells (.slice ao n c) b v S) [_, _] hst3 (ptr_len HL.out _ _ _) (ptr_all _ _ _ _), ?_⟩) | (go_at_call 41; refine (asked_any (St.mat (St.perm hst3 (List.perm_append_comm_assoc [_, _, _] (mP gm ga x m) R)) HG.out.sc.ok.d0) ao n c l b v S HL.out (HA.out _ (St.sub hst3 (.cons _ (.cons _ (.cons _ (List.sublist_append_right _ _)))))) Hn.out).mono ?_; rw [HAS.out]; rintro _ w4 ⟨rfl, h4⟩; replace hst3 := St.call0 hst3 h4; clear h4) | (refine wl_build0 rfl rfl ?_) | (refine wl_storeA [_] hst3 rfl rfl rfl rfl rfl rfl rfl ?_; intro _ hst6; clear hst3) | (refine wl_store [] hst6 rfl rfl rfl (v := .int _ _) rfl rfl rfl ?_ ?_; (exact Nat.le_refl _); intro _ hst7; clear hst6))
  have l1 := Loads.atA (P := Tryz.prog) (T := 59) (off := 0) [.int .i64 0, .int .i64 0, .int .i64 0, .int .i64 0] [_] hst7 rfl rfl
  have l2 := Loads.at (P := Tryz.prog) (T := 37) (off := 0) [] hst7 rfl
  refine bodyPost_ret (results_cell2L rfl rfl rfl l1 l2) rfl ⟨x, rfl, St.sub hst7 (.cons _ (.cons _ (.cons _ (List.Sublist.refl _))))⟩
theorem scan_ok {w0 w : World} {M : List Nat} {R : List HA} {gm ga : Nat} {x : GA} {m : MV} {N : Nat} (hS : St w0 M w (mP gm ga x m ++ R)) (hg : MGood m N) (ao : Option Addr) (n c : Nat) (l : List (Int × Int)) (b v : Int) (S : List UInt8) (hL : L32 S) (hn : l.length = n) (hA : ∀ w, St w0 M w R → Rd w (.slice ao n c) 2 n (addrsV l)) (hN : N + 2 * n ≤ 900000) (h1 : m.askE (PVof ao n c l b v S) = 0) :
    Calls Tryz.prog 27 #[PM gm, .agg (ptrCells (.slice ao n c) b v S).toArray] w fun e w' => ∃ x', e = .returned (.tuple #[.agg (List.toArray (m.scan (PVof ao n c l b v S)).cells), .int .i64 (m.scan (PVof ao n c l b v S)).er]) ∧ St w0 M w' (mP gm ga x' (m.scan (PVof ao n c l b v S)).m ++ R) := by
  obtain ⟨F, hF⟩ : ∃ F, F = l.foldl (CR.next S) (c0of m) := ⟨_, rfl⟩
  have hlook : m.look (PVof ao n c l b v S) = F := hF.symm
  have hr : m.scan (PVof ao n c l b v S) = if F.out then ⟨10, 0, 0, 0, 0, F.m⟩ else ⟨0, F.good, F.mend.he, F.mend.bad, F.lost, F.mend.m⟩ := by
    unfold MV.scan
    rw [if_neg (by rw [h1]; decide), hlook]
  rw [hr]
  obtain ⟨RES, hRES⟩ : ∃ RES : SR, RES = if F.out then ⟨10, 0, 0, 0, 0, F.m⟩ else ⟨0, F.good, F.mend.he, F.mend.bad, F.lost, F.mend.m⟩ := ⟨_, rfl⟩
  rw [← hRES]
  have HRES := hid hRES
  have hst := hS
  have HG := hid hg
  have HL := hid hL
  have Hn := hid hn
  have HA := hid hA
  have HAS : Hid (m.askE ⟨.slice ao n c, l, b, v, S⟩ = 0) := hid h1
  have HF := hid hF
  have HLI : Hid (m.lies l = true) := hid (ask_lies h1)
  clear hS hg hL hn hA hr h1 hlook hF hRES
  refine (callsIn_wide (n := 5)).1 ?_
  refine callsIn_of_wp_marks Tryz.func27 rfl trivial ?_ rfl
  simp only [PM, Tryz.ntmps27, List.size_toArray, List.length_cons, List.length_nil, Nat.reduceAdd, Nat.reduceSub, Array.replicate_succ, Array.replicate_zero, List.push_toArray, List.append_toArray, List.nil_append, List.cons_append]
  refine wpIn_wide.2 ?_
  go_wp2_with (first | go_big_skip | go_big_guard | (refine wl_boxA hst rfl rfl rfl ?_; intro g3 w1 hst1; clear hst) | (refine wl_alloc (T := 59) hst1 rfl rfl ?_; intro g4 w2 hst2; clear hst1) | (refine wl_alloc (T := 37) hst2 rfl rfl ?_; intro g5 w3 hst3; clear hst2) | (refine wl_loadE rfl rfl rfl ?_; first | refine ⟨_, Loads.atA (P := Tryz.prog) (ptrCells (.slice ao n c) b v S) [_, _] hst3 (ptr_len HL.out _ _ _) (ptr_all _ _ _ _), ?_⟩ | refine ⟨_, Loads.atA (P := Tryz.prog) (ptrCells (.slice ao n c) b v S) [_, _, _, _, _] hst6 (ptr_len HL.out _ _ _) (ptr_all _ _ _ _), ?_⟩) | (go_at_call 41; refine (asked_any (St.mat (St.perm hst3 (List.perm_append_comm_assoc [_, _, _] (mP gm ga x m) R)) HG.out.sc.ok.d0) ao n c l b v S HL.out (HA.out _ (St.sub hst3 (.cons _ (.cons _ (.cons _ (List.sublist_append_right _ _)))))) Hn.out).mono ?_; rw [HAS.out]; rintro _ w4 ⟨rfl, h4⟩; replace hst3 := St.call0 hst3 h4; clear h4) | (refine wl_alloc (T := 59) hst3 rfl rfl ?_; intro g7 w5 hst4; clear hst3) | (refine wl_alloc (T := 30) hst4 rfl rfl ?_; intro g8 w6 hst5; clear hst4) | (refine wl_alloc (T := 28) hst5 rfl rfl ?_; intro g9 w7 hst6; clear hst5) | (go_at_call 68; refine (copies_any hst6 gm (-1) ao n c b v S).mono ?_; rintro _ w8 ⟨q3, q4, q5, rfl, h4⟩; have hst7 := h4; clear h4 hst6))
  have hst9 : St w0 M w8 (mP gm ga x m ++ (bxP q3 q4 q5 gm (-1) (ptrCells (.slice ao n c) b v S) ++ sX g9 g8 g7 g5 g4 g3 (ptrCells (.slice ao n c) b v S) R (.slice none 0 0) (.slice none 0 0) (c0of m))) := by
    have e1 := St.nilPQ isB 5 1 (St.nilRow 83 2 hst7)
    refine St.perm e1 ?_
    have p1 := List.perm_append_comm_assoc [Hp.HA.rowP isB (.slice none 0 0) 5 1 0 [], .row (.slice none 0 0) 83 2 0 []] (bxP q3 q4 q5 gm (-1) (ptrCells (.slice ao n c) b v S)) (.blk g9 28 [.slice none 0 0] :: .blk g8 30 [.slice none 0 0] :: .blk g7 59 [.int .i64 0, .int .i64 0, .int .i64 0, .int .i64 0] :: .blk g5 37 [.int .i64 0] :: .blk g4 59 [.int .i64 0, .int .i64 0, .int .i64 0, .int .i64 0] :: .blk g3 34 (ptrCells (.slice ao n c) b v S) :: (mP gm ga x m ++ R))
    refine p1.trans ?_
    refine (List.Perm.append_left _ ((List.Perm.swap _ _ _).trans (List.Perm.cons _ (List.Perm.swap _ _ _)))).trans ?_
    exact List.perm_append_comm_assoc (bxP q3 q4 q5 gm (-1) (ptrCells (.slice ao n c) b v S) ++ [.row (.slice none 0 0) 83 2 0 [], .blk g9 28 [.slice none 0 0], .rowP isB (.slice none 0 0) 5 1 0 [], .blk g8 30 [.slice none 0 0], .blk g7 59 [.int .i64 0, .int .i64 0, .int .i64 0, .int .i64 0], .blk g5 37 [.int .i64 0], .blk g4 59 [.int .i64 0, .int .i64 0, .int .i64 0, .int .i64 0], .blk g3 34 (ptrCells (.slice ao n c) b v S)]) (mP gm ga x m) R
  clear hst7
  have HSZ := hid hst9.size
  have hI0 : cI w0 M gm ga x (bxP q3 q4 q5 gm (-1) (ptrCells (.slice ao n c) b v S)) l N (sXp g9 g8 g7 g5 g4 g3 (ptrCells (.slice ao n c) b v S) R S l (c0of m)) (0, m) w8 := ⟨Nat.zero_le _, HG.out, _, ⟨_, _, c0of m, ⟨Nat.zero_le _, Nat.zero_le _, Nat.zero_le _⟩, rfl, rfl, rfl, rfl⟩, hst9⟩
  clear hst9
  refine wp_rangeM 24 25 (gf := 117) rfl (enters_of Tryz.func117 (by kernel_rfl) rfl) (enc := fun y => cE l S y) _ _ (sB w0 M gm ga x (bxP q3 q4 q5 gm (-1) (ptrCells (.slice ao n c) b v S)) l (-1) S N (sXp g9 g8 g7 g5 g4 g3 (ptrCells (.slice ao n c) b v S) R S l (c0of m))) (sIx w0 M gm ga x g5 g4 R F) _ _ _
    (copies1_seq l ao n c b v S (-1) N m HL.out Hn.out (by omega) (sXp g9 g8 g7 g5 g4 g3 (ptrCells (.slice ao n c) b v S) R S l (c0of m)) ?rd ?skip) ?ownI ?ownB ?ownX hI0 ?assign ?body ?done ?stop
  case rd =>
    rintro k m' X W ⟨wv, bv, cc, _, _, _, _, rfl⟩ hst
    exact HA.out W (St.sub hst (.cons _ (.cons _ (.cons _ (.cons _ (.cons _ (.cons _ (.cons _ (.cons _ (List.Sublist.refl _))))))))))
  case skip =>
    rintro k m' X hk he _
    exact absurd he (lies_dev HLI.out (by rw [Hn.out]; exact hk))
  case ownI =>
    rintro s A B row ⟨h1, h2, X, hX, hst⟩ hg hr
    exact ⟨h1, h2, X, hX, St.ownFrom HSZ.out hst hg hr⟩
  case ownB =>
    rintro y a' _ A B row ⟨g10, g11, h0, h1, h2, h3, X, hX, hst⟩ hg hr
    exact ⟨g10, g11, h0, h1, h2, h3, X, hX, St.ownFrom HSZ.out hst hg hr⟩
  case ownX =>
    rintro cc A B row ⟨h1, h2, hst⟩ hg hr
    exact ⟨h1, h2, St.ownFrom HSZ.out hst hg hr⟩
  case assign =>
    rintro lq y W K ⟨h1, h2, h3, X, hX, hst⟩ hK
    have hs := hst.selfM
    have HK := hid hK
    have HX := hid hX
    have HST := hid hst
    clear hK hX hst hI0
    obtain ⟨V1, hV1⟩ : ∃ V1, V1 = cE l S y := ⟨_, rfl⟩
    have e1 : V1.1 = .agg (List.toArray [.int .i64 (y.pl l).1, .int .i64 (y.pl l).2]) := by rw [hV1]; rfl
    have e2 : V1.2 = .agg (List.toArray [.int .i64 (y.m.kind (y.pl l).1 (y.pl l).2 S), y.v]) := by rw [hV1]; rfl
    have HV1 := hid hV1
    rw [← hV1]
    clear hV1
    obtain ⟨v1, hv1⟩ : ∃ v1, v1 = V1.1 := ⟨_, rfl⟩
    obtain ⟨v2, hv2⟩ : ∃ v2, v2 = V1.2 := ⟨_, rfl⟩
    rw [← hv1, ← hv2]
    have E1 := hid (hv1.trans e1)
    have E2 := hid (hv2.trans e2)
    have HV2 := hid (show V1 = (v1, v2) by rw [hv1, hv2])
    clear e1 e2 hv1 hv2
    have hone : Hid (y.v.oneCell' = true ∧ y.v.cells.size = 1) := hid (by
      obtain ⟨ua, uc, hu⟩ := St.rowPSlice [] HST.out
      rw [hu]
      exact ⟨rfl, rfl⟩)
    simp only [List.setIfInBounds_toArray, List.set_cons_zero, List.set_cons_succ]
    gi_upto_region 8 with (fail)
    apply wpIn_region_lit
    refine list_round rfl ?_
    go_wp2_with (first | go_big_skip | go_big_guard | (refine wl_alloc (T := 83) hs rfl rfl ?_; intro g10 w1 hs1; clear hs) | (refine wl_storeA [] hs1 rfl rfl rfl E1.out rfl rfl rfl ?_; intro w2 hs2; clear hs1))
    refine QT_intro ?_
    gi_upto_region 9 with (fail)
    apply wpIn_region_lit
    refine list_round rfl ?_
    go_wp2_with (first | go_big_skip | go_big_guard | (refine wl_alloc (T := 128) hs2 rfl rfl ?_; intro g11 w3 hs3; clear hs2) | (refine wl_storeA [] hs3 rfl rfl rfl E2.out rfl (by simp [List.all, hone.out.1]; rfl) rfl ?_; intro w4 hs4; clear hs3))
    refine QT_intro ?_
    gi_wp2
    refine HK.out _ _ (St.keeps HST.out hs4) ⟨g10, g11, ?_, h1, h2, h3, X, HX.out, St.joinAll HST.out hs4⟩
    rw [← HV1.out, HV2.out]
    simp only [List.setIfInBounds_toArray, List.set_cons_zero, List.set_cons_succ]
  case body =>
    rintro lq ⟨yk, ym, yv⟩ a' W ⟨g10, g11, rfl, h1, h2, h3, X, ⟨wv, bv, ⟨gd, lo, ill, cb, cm, co⟩, ⟨hb1, hb2, hb3⟩, hcf, hco, hcm, rfl⟩, hst⟩
    unfold YV.pl at h2
    dsimp only at h1 h2 h3 hb1 hb2 hb3 hco hcm
    subst hcm hco
    obtain ⟨⟨wa, wc, rfl⟩, ba, bc, rfl⟩ := mbytes_slice (A := [_, _, _]) (P := mP gm ga x _) (B := bxP q3 q4 q5 gm (-1) (ptrCells (.slice ao n c) b v S)) hst
    have hls := look_succ (S := S) (c := c0of m) h1
    rw [← hcf] at hls
    obtain ⟨z, hz⟩ : ∃ z, z = l.getD yk (0, 0) := ⟨_, rfl⟩
    have HZ := hid hz
    have HKL := hid h1
    have HST := hid hst
    have HCF := hid hcf
    have HB3 := hid (show gd ≤ yk ∧ lo ≤ yk ∧ ill.length ≤ yk from ⟨hb1, hb2, hb3⟩)
    have HNX := hid (h3.looked z.1 z.2 S)
    have HLS := hid hls
    obtain ⟨V1, hV1⟩ : ∃ V1, V1 = cE l S ⟨yk, cm, yv⟩ := ⟨_, rfl⟩
    rw [← hV1]
    have hs := St.perm hst.selfM (pull4 [_, _, _] (mP gm ga x _) (bxP q3 q4 q5 gm (-1) (ptrCells (.slice ao n c) b v S)) (sX g9 g8 g7 g5 g4 g3 (ptrCells (.slice ao n c) b v S) [] (.slice wa ill.length wc) (.slice ba cb.length bc) ⟨gd, lo, ill, cb, cm, false⟩) R)
    change St W _ W (.row (.slice wa ill.length wc) 83 2 ill.length (addrsV ill) :: .blk g9 28 [.slice ba cb.length bc] :: .rowP isB (.slice ba cb.length bc) 5 1 cb.length (bytesV cb) :: .blk g8 30 [.slice wa ill.length wc] :: .blk g7 59 [.int .i64 (gd : Int), .int .i64 0, .int .i64 0, .int .i64 (lo : Int)] :: .blk g5 37 [.int .i64 0] :: .blk g4 59 [.int .i64 0, .int .i64 0, .int .i64 0, .int .i64 0] :: .blk g3 34 (ptrCells (.slice ao n c) b v S) :: (.blk g11 128 [.int .i64 (cm.kind (l.getD yk (0, 0)).1 (l.getD yk (0, 0)).2 S), yv] :: .blk g10 83 [.int .i64 (l.getD yk (0, 0)).1, .int .i64 (l.getD yk (0, 0)).2] :: .rowP isB yv 5 1 (cm.lookB (l.getD yk (0, 0)).1 (l.getD yk (0, 0)).2 S).length (bytesV (cm.lookB (l.getD yk (0, 0)).1 (l.getD yk (0, 0)).2 S)) :: (mP gm ga x (cm.looked (l.getD yk (0, 0)).1 (l.getD yk (0, 0)).2 S) ++ (bxP q3 q4 q5 gm (-1) (ptrCells (.slice ao n c) b v S) ++ R)))) at hs
    rw [← hz] at hs
    obtain ⟨ua, uc, rfl⟩ := St.rowPSlice [_, _, _, _, _, _, _, _, _, _] hs
    have c11 : W.cell? ⟨g11, 0, none⟩ = some (.int .i64 (cm.kind z.1 z.2 S)) := hs.cell (T := 128) (cs := [.int .i64 (cm.kind z.1 z.2 S), .slice ua (cm.lookB z.1 z.2 S).length uc]) (.tail _ (.tail _ (.tail _ (.tail _ (.tail _ (.tail _ (.tail _ (.tail _ (.head _))))))))) rfl
    have hgd : gd ≤ 900000 := by have := Hn.out; omega
    have hlo : lo ≤ 900000 := by have := Hn.out; omega
    clear hz h1 h2 h3 hb1 hb2 hb3 hcf hst hV1 hI0 hls
    simp only [List.setIfInBounds_toArray, List.set_cons_zero, List.set_cons_succ]
    rcases kind_ways cm z.1 z.2 S with hk | hk | hk | hk
    · rw [hk] at hs c11
      have HC9 := hid (show CR.next S ⟨gd, lo, ill, cb, cm, false⟩ z = ⟨gd + 1, lo, ill, if gd = 0 then cm.lookB z.1 z.2 S else cb, cm.looked z.1 z.2 S, false⟩ by unfold CR.next; rw [if_neg Bool.false_ne_true, if_pos hk])
      clear hk
      by_cases h0 : gd = 0
      · subst h0
        rw [if_pos rfl] at HC9
        rw [show ((0 : Nat) : Int) = 0 from rfl] at hs
        gi_upto_region 12 with (fail)
        apply wpIn_region_lit
        refine list_round rfl ?_
        go_wp2_with (first | go_big_skip | go_big_guard | (refine wl_loadE rfl rfl rfl ?_; refine ⟨_, Loads.at (P := Tryz.prog) [_, _, _, _] hs rfl, ?_⟩) | (refine wl_store [_, _, _, _] hs rfl rfl rfl (off := 0) (v := .int .i64 1) rfl rfl rfl ?_ ?_; (show (0 : Nat) + 1 ≤ 4; decide); intro _ hs2; clear hs))
        refine QT_intro ?_
        gi_upto_region 13 with (fail)
        apply wpIn_region_lit
        refine list_round rfl ?_
        go_wp2_with (first | go_big_skip | go_big_guard | (refine wl_loadE rfl rfl rfl ?_; refine ⟨_, Loads.at (P := Tryz.prog) [_, _, _, _] hs2 rfl, ?_⟩))
        refine QT_intro ?_
        gi_upto_region 14 with (fail)
        apply wpIn_region_lit
        refine list_round rfl ?_
        go_wp2_with (first | go_big_skip | go_big_guard | (refine wl_loadE rfl rfl rfl ?_; refine ⟨_, Loads.at (P := Tryz.prog) [_, _, _, _, _, _, _, _] hs2 rfl, ?_⟩) | (refine wl_store [_] hs2 rfl rfl rfl (off := 0) (v := .slice _ _ _) rfl rfl rfl ?_ ?_; (show (0 : Nat) + 1 ≤ 1; decide); intro _ hs3; clear hs2))
        refine QT_intro ?_
        gi_wp2
        refine ⟨St.keeps HST.out hs3, (yk + 1, cm.looked z.1 z.2 S), by unfold cN YV.next YV.pl; dsimp only; rw [← HZ.out], by show yk + 1 ≤ _; have := HKL.out; omega, HNX.out, _, ⟨.slice wa ill.length wc, .slice ua (cm.lookB z.1 z.2 S).length uc, ⟨1, lo, ill, cm.lookB z.1 z.2 S, cm.looked z.1 z.2 S, false⟩, ⟨by have := HB3.out; dsimp only; omega, by have := HB3.out; dsimp only; omega, by have := HB3.out; dsimp only; omega⟩, (by rw [HLS.out, ← HZ.out, HC9.out]), rfl, rfl, rfl⟩, ?_⟩
        exact s_new (St.joinAll HST.out hs3)
      · rw [if_neg h0] at HC9
        have z1 : IntKind.i64.wrap ((gd : Int) + 1) = (gd : Int) + 1 := IntWalk.i64_in _ (by omega)
        have e1 : ((gd : Int) + 1 == 1) = false := by simp; omega
        clear h0
        gi_upto_region 12 with (fail)
        apply wpIn_region_lit
        refine list_round rfl ?_
        go_wp2_with (first | go_big_skip | go_big_guard | (refine wl_loadE rfl rfl rfl ?_; refine ⟨_, Loads.at (P := Tryz.prog) [_, _, _, _] hs rfl, ?_⟩) | (refine wl_store [_, _, _, _] hs rfl rfl rfl (off := 0) (v := .int .i64 ((gd : Int) + 1)) rfl rfl rfl ?_ ?_; (show (0 : Nat) + 1 ≤ 4; decide); intro _ hs2; clear hs))
        refine QT_intro ?_
        gi_upto_region 13 with (fail)
        apply wpIn_region_lit
        refine list_round rfl ?_
        go_wp2_with (first | go_big_skip | go_big_guard | (refine wl_loadE rfl rfl rfl ?_; refine ⟨_, Loads.at (P := Tryz.prog) [_, _, _, _] hs2 rfl, ?_⟩))
        refine QT_intro ?_
        gi_wp2
        refine ⟨St.keeps HST.out hs2, (yk + 1, cm.looked z.1 z.2 S), by unfold cN YV.next YV.pl; dsimp only; rw [← HZ.out], by show yk + 1 ≤ _; have := HKL.out; omega, HNX.out, _, ⟨.slice wa ill.length wc, .slice ba cb.length bc, ⟨gd + 1, lo, ill, cb, cm.looked z.1 z.2 S, false⟩, ⟨by have := HB3.out; dsimp only; omega, by have := HB3.out; dsimp only; omega, by have := HB3.out; dsimp only; omega⟩, (by rw [HLS.out, ← HZ.out, HC9.out]), rfl, rfl, rfl⟩, ?_⟩
        exact s_back (T := [_, _, _]) (St.joinAll HST.out hs2)
    · rw [hk] at hs c11
      have HC9 := hid (show CR.next S ⟨gd, lo, ill, cb, cm, false⟩ z = ⟨gd, lo, ill ++ [z], cb, cm.looked z.1 z.2 S, false⟩ by unfold CR.next; rw [if_neg Bool.false_ne_true, if_neg (by rw [hk]; decide), if_pos hk])
      clear hk
      gi_upto_region 16 with (fail)
      apply wpIn_region_lit
      refine list_round rfl ?_
      go_wp2_with (first | go_big_skip | go_big_guard | (refine wl_loadE rfl rfl rfl ?_; first | refine ⟨_, Loads.at (P := Tryz.prog) [_, _, _] hs rfl, ?_⟩ | refine ⟨_, Loads.atA (P := Tryz.prog) [.int .i64 z.1, .int .i64 z.2] [_, _, _, _, _, _, _, _, _] hs rfl rfl, ?_⟩) | (apply wl_bsX [.agg (List.toArray [.int .i64 z.1, .int .i64 z.2])] [.int .i64 z.1, .int .i64 z.2] hs; rfl; rfl; exact rfl; exact rfl; infer_instance; infer_instance; rfl; rfl; rfl; intro g12 w2 hs2; clear hs) | (apply wl_appX [_] hs2; rfl; rfl; exact rfl; exact rfl; infer_instance; infer_instance; infer_instance; exact (Rd.blk0 hs2 rfl (by decide)); exact rfl; (have := HB3.out; have := HKL.out; have := Hn.out; unfold maxLen; omega); intro v1 w3 hs3 _; clear hs2; obtain ⟨a4, c4, rfl⟩ := St.rowSliceAt [_] hs3) | (refine wl_store [_, _, _, _] hs3 rfl rfl rfl (off := 0) (v := .slice _ _ _) rfl rfl rfl ?_ ?_; (show (0 : Nat) + 1 ≤ 1; decide); intro _ hs4; clear hs3))
      refine QT_intro ?_
      gi_wp2
      refine ⟨St.keeps HST.out hs4, (yk + 1, cm.looked z.1 z.2 S), by unfold cN YV.next YV.pl; dsimp only; rw [← HZ.out], by show yk + 1 ≤ _; have := HKL.out; omega, HNX.out, _, ⟨.slice a4 (ill.length + 1) c4, .slice ba cb.length bc, ⟨gd, lo, ill ++ [z], cb, cm.looked z.1 z.2 S, false⟩, ⟨by have := HB3.out; simp only [List.length_append, List.length_singleton]; omega, by have := HB3.out; simp only [List.length_append, List.length_singleton]; omega, by have := HB3.out; simp only [List.length_append, List.length_singleton]; omega⟩, (by rw [HLS.out, ← HZ.out, HC9.out]), rfl, rfl, rfl⟩, ?_⟩
      have h8 := St.joinAll HST.out hs4
      have h9 := s_back (T := [_, _, _]) (P := mP gm ga x (cm.looked z.1 z.2 S)) (B := bxP q3 q4 q5 gm (-1) (ptrCells (.slice ao n c) b v S)) (R := R) (St.tl h8)
      unfold sX
      dsimp only
      rw [addrsV_snoc, List.length_append]
      exact h9
    · rw [hk] at hs c11
      have HC9 := hid (show CR.next S ⟨gd, lo, ill, cb, cm, false⟩ z = ⟨gd, lo + 1, ill, cb, cm.looked z.1 z.2 S, false⟩ by unfold CR.next; rw [if_neg Bool.false_ne_true, if_neg (by rw [hk]; decide), if_neg (by rw [hk]; decide), if_pos hk])
      clear hk
      have z1 : IntKind.i64.wrap ((lo : Int) + 1) = (lo : Int) + 1 := IntWalk.i64_in _ (by omega)
      gi_upto_region 18 with (fail)
      apply wpIn_region_lit
      refine list_round rfl ?_
      go_wp2_with (first | go_big_skip | go_big_guard | (refine wl_loadE rfl rfl rfl ?_; refine ⟨_, Loads.at (P := Tryz.prog) [_, _, _, _] hs rfl, ?_⟩) | (refine wl_store [_, _, _, _] hs rfl rfl rfl (off := 3) (v := .int .i64 ((lo : Int) + 1)) rfl rfl rfl ?_ ?_; (show (3 : Nat) + 1 ≤ 4; decide); intro _ hs2; clear hs))
      refine QT_intro ?_
      gi_wp2
      refine ⟨St.keeps HST.out hs2, (yk + 1, cm.looked z.1 z.2 S), by unfold cN YV.next YV.pl; dsimp only; rw [← HZ.out], by show yk + 1 ≤ _; have := HKL.out; omega, HNX.out, _, ⟨.slice wa ill.length wc, .slice ba cb.length bc, ⟨gd, lo + 1, ill, cb, cm.looked z.1 z.2 S, false⟩, ⟨by have := HB3.out; dsimp only; omega, by have := HB3.out; dsimp only; omega, by have := HB3.out; dsimp only; omega⟩, (by rw [HLS.out, ← HZ.out, HC9.out]), rfl, rfl, rfl⟩, ?_⟩
      exact s_back (T := [_, _, _]) (St.joinAll HST.out hs2)
    · rw [hk] at hs c11
      have HC9 := hid (show CR.next S ⟨gd, lo, ill, cb, cm, false⟩ z = ⟨gd, lo, ill, cb, cm.looked z.1 z.2 S, true⟩ by unfold CR.next; rw [if_neg Bool.false_ne_true, if_neg (by rw [hk]; decide), if_neg (by rw [hk]; decide), if_neg (by rw [hk]; decide)])
      clear hk
      have HFE := hid (show F = ⟨gd, lo, ill, cb, cm.looked z.1 z.2 S, true⟩ by
        have hw := scan_stop (S := S) (c := c0of m) HKL.out (by rw [← HCF.out, ← HZ.out, HC9.out])
        rw [HF.out, hw, ← HCF.out, ← HZ.out, HC9.out])
      gi_upto_region 20 with (fail)
      apply wpIn_region_lit
      refine list_round rfl ?_
      go_wp2_with (first | go_big_skip | go_big_guard | (refine wl_build0 rfl rfl ?_) | (refine wl_storeA [_, _, _, _, _, _] hs rfl rfl rfl rfl rfl rfl rfl ?_; intro _ hs2; clear hs) | (refine wl_store [_, _, _, _, _] hs2 rfl rfl rfl (off := 0) (v := .int _ _) rfl rfl rfl ?_ ?_; (show (0 : Nat) + 1 ≤ 1; decide); intro _ hs3; clear hs2))
      refine QT_intro ?_
      gi_wp2
      exact ⟨St.keeps HST.out hs3, rfl, by rw [HFE.out], by rw [HFE.out]; exact s_out (T := [_, _, _]) (St.joinAll HST.out hs3)⟩
  case done =>
    rintro D ⟨sk, sm⟩ W hD hE ⟨h1, h2, X, ⟨wv, bv, ⟨gd, lo, ill, cb, cm, co⟩, ⟨hb1, hb2, hb3⟩, hcf, hco, hcm, rfl⟩, hst⟩ hK
    dsimp only at hE hb1 hb2 hb3 hco hcm h2
    subst hcm hco
    obtain ⟨⟨wa, wc, rfl⟩, ba, bc, rfl⟩ := mbytes_slice (A := []) (P := mP gm ga x _) (B := bxP q3 q4 q5 gm (-1) (ptrCells (.slice ao n c) b v S)) hst
    rw [hE, List.take_length] at hcf
    have HFE := hid (HF.out.trans hcf.symm)
    have hs0 : St w0 M W (.row (.slice wa ill.length wc) 83 2 ill.length (addrsV ill) :: .blk g9 28 [.slice ba cb.length bc] :: .rowP isB (.slice ba cb.length bc) 5 1 cb.length (bytesV cb) :: .blk g8 30 [.slice wa ill.length wc] :: .blk g7 59 [.int .i64 (gd : Int), .int .i64 0, .int .i64 0, .int .i64 lo] :: .blk g5 37 [.int .i64 0] :: .blk g4 59 [.int .i64 0, .int .i64 0, .int .i64 0, .int .i64 0] :: .blk g3 34 (ptrCells (.slice ao n c) b v S) ::  (mP gm ga x cm ++ R)) := by
      have h9 := St.perm hst (pull4 [] (mP gm ga x cm) (bxP q3 q4 q5 gm (-1) (ptrCells (.slice ao n c) b v S)) (sX g9 g8 g7 g5 g4 g3 (ptrCells (.slice ao n c) b v S) [] (.slice wa ill.length wc) (.slice ba cb.length bc) ⟨gd, lo, ill, cb, cm, false⟩) R)
      have h10 := St.sub h9 (List.Sublist.append_left (List.Sublist.append_left (List.Sublist.append_left (List.sublist_append_right (bxP q3 q4 q5 gm (-1) (ptrCells (.slice ao n c) b v S)) R) (mP gm ga x cm)) []) (sX g9 g8 g7 g5 g4 g3 (ptrCells (.slice ao n c) b v S) [] (.slice wa ill.length wc) (.slice ba cb.length bc) ⟨gd, lo, ill, cb, cm, false⟩))
      exact h10
    have HG2 := hid (show MGood cm (N + n) from by rw [← Hn.out, ← hE]; exact h2)
    have HD := hid hD
    have HKD := hid hK
    have hcn : ill.length ≤ n := by have := Hn.out; omega
    obtain ⟨cnt, hcnt⟩ : ∃ cnt, cnt = ill.length := ⟨_, rfl⟩
    have HCN := hid hcnt
    rw [← hcnt] at hs0 hcn
    clear hst hK hD hcf hE h1 h2 hb1 hb2 hb3 hI0 hcnt
    by_cases h0 : gd = 0
    · have HANY := hid (show decide (0 < gd) = false from decide_eq_false (by omega))
      have HME : Hid (F.mend = ill.foldl (HR.next false cb) ⟨0, 0, cm⟩) := hid (by rw [HFE.out]; unfold CR.mend; dsimp only; rw [HANY.out])
      subst h0
      rw [show ((0 : Nat) : Int) = 0 from rfl] at hs0
      go_wp2_with (first | go_big_skip | go_big_guard | (refine wl_loadE rfl rfl rfl ?_; refine ⟨_, Loads.at (P := Tryz.prog) [_, _, _] hs0 rfl, ?_⟩))
      go_loopw [56] (fun i wr => ∃ (k : Nat) (x' : GA) (h : HR), k ≤ cnt ∧ i = .int .i64 k ∧ Hid (h.he ≤ k ∧ h.bad ≤ k) ∧ Hid (h = (ill.take k).foldl (HR.next false cb) ⟨0, 0, cm⟩) ∧ Hid (MGood h.m (N + n + k)) ∧ Hid (wr.heap[D]? = some (.deferred (some []))) ∧ St w0 M wr (.row (.slice wa cnt wc) 83 2 cnt (addrsV ill) :: .blk g9 28 [.slice ba cb.length bc] :: .rowP isB (.slice ba cb.length bc) 5 1 cb.length (bytesV cb) :: .blk g8 30 [.slice wa cnt wc] :: .blk g7 59 [.int .i64 0, .int .i64 h.he, .int .i64 h.bad, .int .i64 lo] :: .blk g5 37 [.int .i64 0] :: .blk g4 59 [.int .i64 0, .int .i64 0, .int .i64 0, .int .i64 0] :: .blk g3 34 (ptrCells (.slice ao n c) b v S) ::  (mP gm ga x' h.m ++ R))) (fun i _ => cnt - (intOf i).toNat)
      case atStart => exact ⟨0, x, ⟨0, 0, cm⟩, Nat.zero_le _, rfl, hid ⟨Nat.zero_le _, Nat.zero_le _⟩, hid rfl, HG2, HKD, hs0⟩
      case round =>
        clear hs0
        obtain ⟨k, x1, h, hk, rfl, HB, HH, HGK, HKW, hst⟩ := hrel
        by_cases hlt : k < cnt
        · have d0 : decide ((k : Int) < (cnt : Int)) = true := decide_eq_true (by omega)
          obtain ⟨bb, off, rfl, hr⟩ := (Rd.row hst (.head _)).at hlt
          obtain ⟨z, hz⟩ : ∃ z, z = ill.getD k (0, 0) := ⟨_, rfl⟩
          have hb := addr_both hr (k := k) (by rw [← HCN.out]; exact hlt)
          rw [← hz] at hb
          have HAD := hid hb
          have HFS := hid (fold_succ (f := HR.next false cb) (c := ⟨0, 0, cm⟩) (l := ill) (k := k) (by rw [← HCN.out]; exact hlt))
          rw [← hz, ← HH.out] at HFS
          have HST := hid hst
          have hs := hst.selfM
          have zh : IntKind.i64.wrap ((h.he : Int) + 1) = (h.he : Int) + 1 := IntWalk.i64_in _ (by have := HB.out; omega)
          have zb : IntKind.i64.wrap ((h.bad : Int) + 1) = (h.bad : Int) + 1 := IntWalk.i64_in _ (by have := HB.out; omega)
          clear hz hb hr hst
          have HN9 := hid (show HR.next false cb h z = ⟨h.he, h.bad + 1, h.m⟩ from rfl)
          have HG3 := hid (HGK.out.mono (show N + n + k ≤ N + n + (k + 1) by omega))
          go_wp2_with (first | go_big_skip | go_big_guard | (refine wl_index rfl rfl rfl rfl (hlt) ?_) | (refine wl_loadE rfl rfl rfl ?_; first | refine ⟨_, Loads.range (P := Tryz.prog) (cs := [.int .i64 z.1, .int .i64 z.2]) (TyA.out (n := 2)) HAD.out, ?_⟩ | refine ⟨_, Loads.at (P := Tryz.prog) [_, _, _, _, _] hs2 rfl, ?_⟩ | refine ⟨_, Loads.at (P := Tryz.prog) [_, _, _, _, _] hs3 rfl, ?_⟩ | refine ⟨_, Loads.at (P := Tryz.prog) [_, _] hs2 rfl, ?_⟩ | refine ⟨_, Loads.atA (P := Tryz.prog) [.int .i64 z.1, .int .i64 z.2] [] hs2 rfl rfl, ?_⟩) | (refine wl_alloc hs rfl rfl ?_; intro g13 w4 hs1; clear hs) | (refine wl_storeA [] hs1 rfl rfl rfl rfl rfl rfl rfl ?_; intro w5 hs2; clear hs1) | (refine wl_store [_, _, _, _, _] hs2 rfl rfl rfl (off := 2) (v := .int .i64 ((h.bad : Int) + 1)) rfl rfl rfl ?_ ?_; (show (2 : Nat) + 1 ≤ 4; decide); intro _ hs4; clear hs2))
          go_roundw
          case rel => exact ⟨k + 1, x1, ⟨h.he, h.bad + 1, h.m⟩, by omega, by go_num, hid (by have := HB.out; dsimp only; omega), hid (by rw [HFS.out, HN9.out]), HG3, hid ((St.keeps HST.out hs4).same _ _ HKW.out rfl), St.tl (St.joinAll HST.out hs4)⟩
          case measure => simp [intOf]; omega
        · obtain rfl : k = cnt := by omega
          have d0 : decide ((k : Int) < (k : Int)) = false := decide_eq_false (by omega)
          have HMF : Hid (F.mend = h) := hid (by rw [HME.out, HH.out, HCN.out, List.take_length])
          have HST := hid hst
          have hs := hst.selfM
          clear hst
          go_wp2_with (first | go_big_skip | go_big_guard | (refine wl_loadE rfl rfl rfl ?_; refine ⟨_, Loads.atA (P := Tryz.prog) (T := 59) [.int .i64 0, .int .i64 h.he, .int .i64 h.bad, .int .i64 lo] [_, _, _, _] hs rfl rfl, ?_⟩) | (refine wl_storeA [_, _, _, _, _, _] hs rfl rfl rfl rfl rfl rfl rfl ?_; intro _ hs2; clear hs) | (refine wl_store [_, _, _, _, _] hs2 rfl rfl rfl (off := 0) (v := .int _ _) rfl rfl rfl ?_ ?_; (show (0 : Nat) + 1 ≤ 1; decide); intro _ hs3; clear hs2))
          have hK2 := (St.keeps HST.out hs3).same _ _ HKW.out rfl
          refine ⟨by simp, .inl ⟨_, _, rfl, run_takeDeferred hK2, ?_⟩⟩
          have hs7 := St.putObj (o' := .deferred none) (Nat.le_trans HSZ.out HD.out) (St.joinAll HST.out hs3) hK2 rfl
          have l1 := Loads.atA (P := Tryz.prog) (T := 59) (off := 0) [.int .i64 0, .int .i64 h.he, .int .i64 h.bad, .int .i64 lo] [_, _, _, _, _, _] hs7 rfl rfl
          have l2 := Loads.at (P := Tryz.prog) (T := 37) (off := 0) [_, _, _, _, _] hs7 rfl
          have hres : RES = ⟨0, 0, h.he, h.bad, lo, h.m⟩ := by
            rw [HRES.out, HMF.out, HFE.out]
            rfl
          rw [hres]
          exact ⟨_, results_cell2L rfl rfl rfl l1 l2, x1, rfl, St.sub hs7 (.cons _ (.cons _ (.cons _ (.cons _ (.cons _ (.cons _ (.cons _ (.cons _ (List.Sublist.refl _)))))))))⟩
    · have HANY := hid (show decide (0 < gd) = true from decide_eq_true (by omega))
      have hpos : 0 < gd := by omega
      have d1 : decide ((gd : Int) > 0) = true := decide_eq_true (by omega)
      have HME : Hid (F.mend = ill.foldl (HR.next true cb) ⟨0, 0, cm⟩) := hid (by rw [HFE.out]; unfold CR.mend; dsimp only; rw [HANY.out])
      clear h0
      go_wp2_with (first | go_big_skip | go_big_guard | (refine wl_loadE rfl rfl rfl ?_; refine ⟨_, Loads.at (P := Tryz.prog) [_, _, _] hs0 rfl, ?_⟩))
      go_loopw [56] (fun i wr => ∃ (k : Nat) (x' : GA) (h : HR), k ≤ cnt ∧ i = .int .i64 k ∧ Hid (h.he ≤ k ∧ h.bad ≤ k) ∧ Hid (h = (ill.take k).foldl (HR.next true cb) ⟨0, 0, cm⟩) ∧ Hid (MGood h.m (N + n + k)) ∧ Hid (wr.heap[D]? = some (.deferred (some []))) ∧ St w0 M wr (.row (.slice wa cnt wc) 83 2 cnt (addrsV ill) :: .blk g9 28 [.slice ba cb.length bc] :: .rowP isB (.slice ba cb.length bc) 5 1 cb.length (bytesV cb) :: .blk g8 30 [.slice wa cnt wc] :: .blk g7 59 [.int .i64 (gd : Int), .int .i64 h.he, .int .i64 h.bad, .int .i64 lo] :: .blk g5 37 [.int .i64 0] :: .blk g4 59 [.int .i64 0, .int .i64 0, .int .i64 0, .int .i64 0] :: .blk g3 34 (ptrCells (.slice ao n c) b v S) ::  (mP gm ga x' h.m ++ R))) (fun i _ => cnt - (intOf i).toNat)
      case atStart => exact ⟨0, x, ⟨0, 0, cm⟩, Nat.zero_le _, rfl, hid ⟨Nat.zero_le _, Nat.zero_le _⟩, hid rfl, HG2, HKD, hs0⟩
      case round =>
        clear hs0
        obtain ⟨k, x1, h, hk, rfl, HB, HH, HGK, HKW, hst⟩ := hrel
        by_cases hlt : k < cnt
        · have d0 : decide ((k : Int) < (cnt : Int)) = true := decide_eq_true (by omega)
          obtain ⟨bb, off, rfl, hr⟩ := (Rd.row hst (.head _)).at hlt
          obtain ⟨z, hz⟩ : ∃ z, z = ill.getD k (0, 0) := ⟨_, rfl⟩
          have hb := addr_both hr (k := k) (by rw [← HCN.out]; exact hlt)
          rw [← hz] at hb
          have HAD := hid hb
          have HFS := hid (fold_succ (f := HR.next true cb) (c := ⟨0, 0, cm⟩) (l := ill) (k := k) (by rw [← HCN.out]; exact hlt))
          rw [← hz, ← HH.out] at HFS
          have HST := hid hst
          have hs := hst.selfM
          have zh : IntKind.i64.wrap ((h.he : Int) + 1) = (h.he : Int) + 1 := IntWalk.i64_in _ (by have := HB.out; omega)
          have zb : IntKind.i64.wrap ((h.bad : Int) + 1) = (h.bad : Int) + 1 := IntWalk.i64_in _ (by have := HB.out; omega)
          clear hz hb hr hst
          have HG3 := hid (HGK.out.healed z.1 z.2 cb)
          by_cases e0 : h.m.a.writeE z.1 z.2 cb = 0
          · have HQ := hid (show (h.m.a.writeE z.1 z.2 cb == 0) = true from beq_iff_eq.2 e0)
            have HN9 := hid (show HR.next true cb h z = ⟨h.he + 1, h.bad, h.m.healed z.1 z.2 cb⟩ by unfold HR.next; rw [HQ.out]; rfl)
            clear e0
            go_wp2_with (first | go_big_skip | go_big_guard | (refine wl_index rfl rfl rfl rfl (hlt) ?_) | (refine wl_loadE rfl rfl rfl ?_; first | refine ⟨_, Loads.range (P := Tryz.prog) (cs := [.int .i64 z.1, .int .i64 z.2]) (TyA.out (n := 2)) HAD.out, ?_⟩ | refine ⟨_, Loads.at (P := Tryz.prog) [_, _, _, _, _] hs2 rfl, ?_⟩ | refine ⟨_, Loads.at (P := Tryz.prog) [_, _, _, _, _] hs3 rfl, ?_⟩ | refine ⟨_, Loads.at (P := Tryz.prog) [_, _] hs2 rfl, ?_⟩ | refine ⟨_, Loads.atA (P := Tryz.prog) [.int .i64 z.1, .int .i64 z.2] [] hs2 rfl rfl, ?_⟩) | (refine wl_alloc hs rfl rfl ?_; intro g13 w4 hs1; clear hs) | (refine wl_storeA [] hs1 rfl rfl rfl rfl rfl rfl rfl ?_; intro w5 hs2; clear hs1) | (go_at_call 58; have HC := heal_any (St.perm hs2 (List.perm_append_comm_assoc ([.blk g13 83 [.int .i64 z.1, .int .i64 z.2], .row (.slice (some ⟨bb, off, none⟩) cnt wc) 83 2 cnt (addrsV ill), .blk g9 28 [.slice ba cb.length bc], .rowP isB (.slice ba cb.length bc) 5 1 cb.length (bytesV cb), .blk g8 30 [.slice (some ⟨bb, off, none⟩) cnt wc], .blk g7 59 [.int .i64 (gd : Int), .int .i64 h.he, .int .i64 h.bad, .int .i64 lo], .blk g5 37 [.int .i64 0], .blk g4 59 [.int .i64 0, .int .i64 0, .int .i64 0, .int .i64 0], .blk g3 34 (ptrCells (.slice ao n c) b v S)] : List Hp.HA) (mP gm ga x1 h.m) R)) HGK.out (by omega) z.1 z.2 ba cb.length bc cb (GB.row (.tail _ (.tail _ (.tail _ (.head _)))) rfl); rw [HQ.out] at HC; refine HC.mono ?_; clear HC; rintro _ w6 ⟨x2, rfl, h4⟩; have hs3 := St.perm h4 (List.perm_append_comm_assoc (mP gm ga x2 (h.m.healed z.1 z.2 cb)) ([.blk g13 83 [.int .i64 z.1, .int .i64 z.2], .row (.slice (some ⟨bb, off, none⟩) cnt wc) 83 2 cnt (addrsV ill), .blk g9 28 [.slice ba cb.length bc], .rowP isB (.slice ba cb.length bc) 5 1 cb.length (bytesV cb), .blk g8 30 [.slice (some ⟨bb, off, none⟩) cnt wc], .blk g7 59 [.int .i64 (gd : Int), .int .i64 h.he, .int .i64 h.bad, .int .i64 lo], .blk g5 37 [.int .i64 0], .blk g4 59 [.int .i64 0, .int .i64 0, .int .i64 0, .int .i64 0], .blk g3 34 (ptrCells (.slice ao n c) b v S)] : List Hp.HA) R); clear h4 hs2) | (refine wl_store [_, _, _, _, _] hs3 rfl rfl rfl (off := 1) (v := .int .i64 ((h.he : Int) + 1)) rfl rfl rfl ?_ ?_; (show (1 : Nat) + 1 ≤ 4; decide); intro _ hs4; clear hs3))
            go_roundw
            case rel => exact ⟨k + 1, x2, ⟨h.he + 1, h.bad, h.m.healed z.1 z.2 cb⟩, by omega, by go_num, hid (by have := HB.out; dsimp only; omega), hid (by rw [HFS.out, HN9.out]), HG3, hid ((St.keeps HST.out hs4).same _ _ HKW.out rfl), St.tl (St.joinAll HST.out hs4)⟩
            case measure => simp [intOf]; omega
          · have HQ := hid (show (h.m.a.writeE z.1 z.2 cb == 0) = false from beq_eq_false_iff_ne.2 e0)
            have HN9 := hid (show HR.next true cb h z = ⟨h.he, h.bad + 1, h.m.healed z.1 z.2 cb⟩ by unfold HR.next; rw [HQ.out]; rfl)
            clear e0
            go_wp2_with (first | go_big_skip | go_big_guard | (refine wl_index rfl rfl rfl rfl (hlt) ?_) | (refine wl_loadE rfl rfl rfl ?_; first | refine ⟨_, Loads.range (P := Tryz.prog) (cs := [.int .i64 z.1, .int .i64 z.2]) (TyA.out (n := 2)) HAD.out, ?_⟩ | refine ⟨_, Loads.at (P := Tryz.prog) [_, _, _, _, _] hs2 rfl, ?_⟩ | refine ⟨_, Loads.at (P := Tryz.prog) [_, _, _, _, _] hs3 rfl, ?_⟩ | refine ⟨_, Loads.at (P := Tryz.prog) [_, _] hs2 rfl, ?_⟩ | refine ⟨_, Loads.atA (P := Tryz.prog) [.int .i64 z.1, .int .i64 z.2] [] hs2 rfl rfl, ?_⟩) | (refine wl_alloc hs rfl rfl ?_; intro g13 w4 hs1; clear hs) | (refine wl_storeA [] hs1 rfl rfl rfl rfl rfl rfl rfl ?_; intro w5 hs2; clear hs1) | (go_at_call 58; have HC := heal_any (St.perm hs2 (List.perm_append_comm_assoc ([.blk g13 83 [.int .i64 z.1, .int .i64 z.2], .row (.slice (some ⟨bb, off, none⟩) cnt wc) 83 2 cnt (addrsV ill), .blk g9 28 [.slice ba cb.length bc], .rowP isB (.slice ba cb.length bc) 5 1 cb.length (bytesV cb), .blk g8 30 [.slice (some ⟨bb, off, none⟩) cnt wc], .blk g7 59 [.int .i64 (gd : Int), .int .i64 h.he, .int .i64 h.bad, .int .i64 lo], .blk g5 37 [.int .i64 0], .blk g4 59 [.int .i64 0, .int .i64 0, .int .i64 0, .int .i64 0], .blk g3 34 (ptrCells (.slice ao n c) b v S)] : List Hp.HA) (mP gm ga x1 h.m) R)) HGK.out (by omega) z.1 z.2 ba cb.length bc cb (GB.row (.tail _ (.tail _ (.tail _ (.head _)))) rfl); rw [HQ.out] at HC; refine HC.mono ?_; clear HC; rintro _ w6 ⟨x2, rfl, h4⟩; have hs3 := St.perm h4 (List.perm_append_comm_assoc (mP gm ga x2 (h.m.healed z.1 z.2 cb)) ([.blk g13 83 [.int .i64 z.1, .int .i64 z.2], .row (.slice (some ⟨bb, off, none⟩) cnt wc) 83 2 cnt (addrsV ill), .blk g9 28 [.slice ba cb.length bc], .rowP isB (.slice ba cb.length bc) 5 1 cb.length (bytesV cb), .blk g8 30 [.slice (some ⟨bb, off, none⟩) cnt wc], .blk g7 59 [.int .i64 (gd : Int), .int .i64 h.he, .int .i64 h.bad, .int .i64 lo], .blk g5 37 [.int .i64 0], .blk g4 59 [.int .i64 0, .int .i64 0, .int .i64 0, .int .i64 0], .blk g3 34 (ptrCells (.slice ao n c) b v S)] : List Hp.HA) R); clear h4 hs2) | (refine wl_store [_, _, _, _, _] hs3 rfl rfl rfl (off := 2) (v := .int .i64 ((h.bad : Int) + 1)) rfl rfl rfl ?_ ?_; (show (2 : Nat) + 1 ≤ 4; decide); intro _ hs4; clear hs3))
            go_roundw
            case rel => exact ⟨k + 1, x2, ⟨h.he, h.bad + 1, h.m.healed z.1 z.2 cb⟩, by omega, by go_num, hid (by have := HB.out; dsimp only; omega), hid (by rw [HFS.out, HN9.out]), HG3, hid ((St.keeps HST.out hs4).same _ _ HKW.out rfl), St.tl (St.joinAll HST.out hs4)⟩
            case measure => simp [intOf]; omega
        · obtain rfl : k = cnt := by omega
          have d0 : decide ((k : Int) < (k : Int)) = false := decide_eq_false (by omega)
          have HMF : Hid (F.mend = h) := hid (by rw [HME.out, HH.out, HCN.out, List.take_length])
          have HST := hid hst
          have hs := hst.selfM
          clear hst
          go_wp2_with (first | go_big_skip | go_big_guard | (refine wl_loadE rfl rfl rfl ?_; refine ⟨_, Loads.atA (P := Tryz.prog) (T := 59) [.int .i64 (gd : Int), .int .i64 h.he, .int .i64 h.bad, .int .i64 lo] [_, _, _, _] hs rfl rfl, ?_⟩) | (refine wl_storeA [_, _, _, _, _, _] hs rfl rfl rfl rfl rfl rfl rfl ?_; intro _ hs2; clear hs) | (refine wl_store [_, _, _, _, _] hs2 rfl rfl rfl (off := 0) (v := .int _ _) rfl rfl rfl ?_ ?_; (show (0 : Nat) + 1 ≤ 1; decide); intro _ hs3; clear hs2))
          have hK2 := (St.keeps HST.out hs3).same _ _ HKW.out rfl
          refine ⟨by simp, .inl ⟨_, _, rfl, run_takeDeferred hK2, ?_⟩⟩
          have hs7 := St.putObj (o' := .deferred none) (Nat.le_trans HSZ.out HD.out) (St.joinAll HST.out hs3) hK2 rfl
          have l1 := Loads.atA (P := Tryz.prog) (T := 59) (off := 0) [.int .i64 (gd : Int), .int .i64 h.he, .int .i64 h.bad, .int .i64 lo] [_, _, _, _, _, _] hs7 rfl rfl
          have l2 := Loads.at (P := Tryz.prog) (T := 37) (off := 0) [_, _, _, _, _] hs7 rfl
          have hres : RES = ⟨0, gd, h.he, h.bad, lo, h.m⟩ := by
            rw [HRES.out, HMF.out, HFE.out]
            rfl
          rw [hres]
          exact ⟨_, results_cell2L rfl rfl rfl l1 l2, x1, rfl, St.sub hs7 (.cons _ (.cons _ (.cons _ (.cons _ (.cons _ (.cons _ (.cons _ (.cons _ (List.Sublist.refl _)))))))))⟩
  case stop =>
    rintro D cc W hD ⟨rfl, hFo, hst⟩ hK
    have HD := hid hD
    clear hD hI0
    go_wp2_with (first | go_big_skip | go_big_guard | fail)
    refine ⟨by simp, .inl ⟨_, _, rfl, run_takeDeferred hK, ?_⟩⟩
    have hs7 := St.putObj (o' := .deferred none) (Nat.le_trans HSZ.out HD.out) hst hK rfl
    have l1 := Loads.atA (P := Tryz.prog) (T := 59) (off := 0) [.int .i64 0, .int .i64 0, .int .i64 0, .int .i64 0] [_] hs7 rfl rfl
    have l2 := Loads.at (P := Tryz.prog) (T := 37) (off := 0) [] hs7 rfl
    rw [show RES = ⟨10, 0, 0, 0, 0, F.m⟩ from HRES.out.trans (if_pos hFo)]
    exact ⟨_, results_cell2L rfl rfl rfl l1 l2, x, rfl, St.sub hs7 (.cons _ (.cons _ (List.Sublist.refl _)))⟩
theorem scan_any {w0 w : World} {M : List Nat} {R : List HA} {gm ga : Nat} {x : GA} {m : MV} {N : Nat} (hS : St w0 M w (mP gm ga x m ++ R)) (hg : MGood m N) (ao : Option Addr) (n c : Nat) (l : List (Int × Int)) (b v : Int) (S : List UInt8) (hL : L32 S) (hn : l.length = n) (hA : ∀ w, St w0 M w R → Rd w (.slice ao n c) 2 n (addrsV l)) (hN : N + 2 * n ≤ 900000) :
    Calls Tryz.prog 27 #[PM gm, .agg (ptrCells (.slice ao n c) b v S).toArray] w fun e w' => ∃ x', e = .returned (.tuple #[.agg (List.toArray (m.scan (PVof ao n c l b v S)).cells), .int .i64 (m.scan (PVof ao n c l b v S)).er]) ∧ St w0 M w' (mP gm ga x' (m.scan (PVof ao n c l b v S)).m ++ R) := by
  by_cases h1 : m.askE (PVof ao n c l b v S) = 0
  · exact scan_ok hS hg ao n c l b v S hL hn hA hN h1
  · exact scan_odd hS hg ao n c l b v S hL hn hA hN h1
end
end Go.Proofs.YtmdfbdfijnmhkaaGreat
namespace Go.Proofs.YtmdfbdfijnmhkaaGreat
set_option linter.unusedVariables false
set_option linter.unusedSimpArgs false
open Go.RowKit Hp
attribute [local irreducible] Go.Calls Go.wpList
set_option maxRecDepth 100000
set_option maxHeartbeats 4000000
structure MC where
  k : Int
  dev : Int
  p : PV
  bo : Option Addr
  bn : Nat
  bc : Nat
  B : List UInt8
  x : AC
def MC.cells (y : MC) : List Value := .int .i64 y.k :: .int .i64 y.dev :: (y.p.cells ++ (.slice y.bo y.bn y.bc :: y.x.cells))
structure MC.Ok (y : MC) (w : World) : Prop where
  k : in64 y.k
  dev : in64 y.dev
  p : y.p.In w
  rb : Rd w (.slice y.bo y.bn y.bc) 1 y.bn (bytesV y.B)
  lb : y.B.length = y.bn
  x : y.x.Ok w
theorem MC.Ok.old {w0 w : World} {L : List HA} {y : MC} (hst : St w0 [] w L) (h : y.Ok w0) : y.Ok w := ⟨h.k, h.dev, PV.In.old hst h.p, Rd.old hst h.rb, h.lb, h.x.old hst⟩
theorem MC.len {y : MC} (h : L32 y.p.S) : y.cells.length = 45 := by
  unfold MC.cells
  simp only [List.length_cons, List.length_append, PV.len h]
  rfl
theorem MC.ones {w : World} {y : MC} (h : y.Ok w) : y.cells.all (·.oneCell') = true := by
  have h1 := PV.ones h.p
  unfold MC.cells
  simp only [List.all_cons, List.all_append, h1, AC.cells]
  rfl
theorem MC.pc {y : MC} (h : L32 y.p.S) {j : Nat} {v : Value} (hj : y.p.cells[j]? = some v) : y.cells[j + 2]? = some v := by
  unfold MC.cells
  rw [List.getElem?_cons_succ, List.getElem?_cons_succ, List.getElem?_append_left (List.getElem?_eq_some_iff.1 hj).1]
  exact hj
theorem MC.qc {y : MC} (h : L32 y.p.S) (j : Nat) : y.cells[37 + j]? = (.slice y.bo y.bn y.bc :: y.x.cells)[j]? := by
  have e : 37 + j = 35 + j + 1 + 1 := by omega
  unfold MC.cells
  rw [e, List.getElem?_cons_succ, List.getElem?_cons_succ, List.getElem?_append_right (by rw [PV.len h]; omega), PV.len h, Nat.add_sub_cancel_left]
theorem mcs_at : ∀ {xs : List MC} {k : Nat} {x : MC}, (∀ y ∈ xs, L32 y.p.S) → xs[k]? = some x → ∀ j v, x.cells[j]? = some v → (xs.flatMap MC.cells)[k * 45 + j]? = some v
  | y :: xs, 0, x, _, h, j, v, hj => by
    cases h
    rw [List.flatMap_cons, Nat.zero_mul, Nat.zero_add, List.getElem?_append_left (List.getElem?_eq_some_iff.1 hj).1]
    exact hj
  | y :: xs, k + 1, x, hl0, h, j, v, hj => by
    have hl : y.cells.length = 45 := MC.len (hl0 y List.mem_cons_self)
    rw [List.flatMap_cons, List.getElem?_append_right (by rw [hl]; omega), hl, show (k + 1) * 45 + j - 45 = k * 45 + j by omega]
    exact mcs_at (fun y hy => hl0 y (List.mem_cons_of_mem _ hy)) (by simpa using h) j v hj
  | [], _, _, _, h, _, _, _ => by cases h
theorem mcs_range {w : World} {b off n c k : Nat} {xs : List MC} {x : MC} (hl : ∀ y ∈ xs, L32 y.p.S) (h : Rd w (.slice (some ⟨b, off, none⟩) n c) 45 n (xs.flatMap MC.cells)) (hk : xs[k]? = some x) : w.rangeAt b (off + k * 45) x.cells := by
  intro j v hj
  have := h.range (k * 45 + j) v (mcs_at hl hk j v hj)
  rwa [← Nat.add_assoc] at this
def shortM (ys : List MC) (N : Nat) : Prop := N ≤ 100 ∧ ∀ y ∈ ys, y.p.l.length ≤ 20 ∧ y.bn ≤ 300 ∧ y.x.bn ≤ 300 ∧ y.x.kn ≤ 200
theorem accs_snoc (ys : List MC) (k : Nat) (x : MC) (h : ys[k]? = some x) : ((ys.take (k + 1)).map MC.x).flatMap AC.cells = ((ys.take k).map MC.x).flatMap AC.cells ++ x.x.cells := by
  obtain ⟨hk, rfl⟩ := List.getElem?_eq_some_iff.1 h
  rw [List.take_succ_eq_append_getElem hk, List.map_append, List.flatMap_append]
  simp
instance acE16 : TyE Tryz.prog 49 7 88 := ⟨by kernel_rfl⟩
section
theorem loadedAc (A : Addr) : loadVar 49 A = loadVarH 49 A := rfl
attribute [local go_sem ↓] loadedAc
attribute [local irreducible] Hp.Loads
theorem longM_any (ao : Option Addr) (N c : Nat) (ys : List MC) (w : World) (hv : Rd w (.slice ao N c) 45 N (ys.flatMap MC.cells)) (hN : ys.length = N) (hy : ∀ y ∈ ys, y.Ok w) :
    Calls Tryz.prog 29 #[.slice ao N c] w fun e w' => (∃ b, e = .returned (.bool b) ∧ (b = false ↔ shortM ys N)) ∧ St w [] w' [] := by
  have hst0 := St.nilRow 49 7 (St.refl w)
  have HN := hid hN
  have HYY := hid hy
  have hb1 := hv.bd.1
  have hb2 := hv.bd.2.1
  clear hN hy
  go_enter Tryz.func29, Tryz.ntmps29
  go_wp2_with (first | go_big_skip | go_big_guard | fail)
  go_loopw [3, 4] (fun qv q wr => ∃ k : Nat, k ≤ N ∧ k ≤ 101 ∧ q = .int .i64 k ∧ Hid (∀ j y, j < k → ys[j]? = some y → y.p.l.length ≤ 20 ∧ y.bn ≤ 300) ∧ St w [] wr [.row qv 49 7 k (((ys.take k).map MC.x).flatMap AC.cells)]) (fun _ q _ => 101 - (intOf q).toNat)
  case atStart => exact ⟨0, by omega, by omega, rfl, hid (fun j x hj => absurd hj (Nat.not_lt_zero _)), hst0⟩
  case round =>
    clear hst0
    obtain ⟨k, hk, hk1, rfl, hall, hst⟩ := hrel
    obtain ⟨va, vc, rfl⟩ := St.rowSliceAt [] hst
    have HK := hid hk
    by_cases hkN : k < N
    · by_cases hk2 : k < 101
      · obtain ⟨y, hyk⟩ : ∃ y, ys[k]? = some y := ⟨_, List.getElem?_eq_getElem (by rw [HN.out]; exact hkN)⟩
        obtain ⟨b, off, rfl, _⟩ := hv.at hkN
        have hok := HYY.out y (List.mem_of_getElem? hyk)
        have hra := mcs_range (fun y hy => (HYY.out y hy).p.1) hv hyk
        obtain ⟨hL, po, pn, pc, he, hpr, hpl⟩ := hok.p
        have h3 := hid (show w.cell? ⟨b, off + k * 45 + 2, none⟩ = some (.slice po pn pc) from by have := hra 2 _ (MC.pc hL (j := 0) rfl); rw [he] at this; exact this)
        have h4 := hid (show w.cell? ⟨b, off + k * 45 + 37, none⟩ = some (.slice y.bo y.bn y.bc) from hra 37 _ (MC.qc hL 0))
        have h5 := hid (show w.rangeAt b (off + k * 45 + 38) y.x.cells from fun j v hj => by have := hra (38 + j) v (by rw [show 38 + j = 37 + (j + 1) by omega, MC.qc hL]; exact hj); rwa [← Nat.add_assoc] at this)
        have L3 : Loads Tryz.prog wr 30 ⟨b, off + k * 45 + 2, none⟩ (.slice po pn pc) := Loads.old hst h3.out
        have L4 : Loads Tryz.prog wr 28 ⟨b, off + k * 45 + 37, none⟩ (.slice y.bo y.bn y.bc) := Loads.old hst h4.out
        have L5 : Loads Tryz.prog wr 49 ⟨b, off + k * 45 + 38, none⟩ (.agg (List.toArray y.x.cells)) := Loads.oldA hst rfl h5.out
        have HYK := hid hyk
        have HPL := hid hpl
        have hm1 := hok.rb.bd.1
        have hm2 := hok.rb.bd.2.1
        have hm3 := hpr.bd.1
        have hm4 := hpr.bd.2.1
        have d1 : decide ((k : Int) < (N : Int)) = true := decide_eq_true (by omega)
        have d0 : decide ((k : Int) < 101) = true := decide_eq_true (by omega)
        clear hra hyk hok he hpr hpl
        by_cases g1 : 20 < pn
        · have d2 : decide (20 < (pn : Int)) = true := decide_eq_true (by omega)
          go_wp2_with (first | go_big_skip | go_big_guard | (refine wl_loadE rfl rfl rfl ?_; first | refine ⟨_, L3, ?_⟩ | refine ⟨_, L4, ?_⟩))
          go_ret
          exact ⟨⟨true, rfl, ⟨fun h => (by cases h), fun h => by have := (h.2 y (List.mem_of_getElem? HYK.out)).1; have := HPL.out; omega⟩⟩, hst.nil⟩
        · have d2 : decide (20 < (pn : Int)) = false := decide_eq_false (by omega)
          by_cases g2 : 300 < y.bn
          · have d3 : decide (300 < (y.bn : Int)) = true := decide_eq_true (by omega)
            go_wp2_with (first | go_big_skip | go_big_guard | (refine wl_loadE rfl rfl rfl ?_; first | refine ⟨_, L3, ?_⟩ | refine ⟨_, L4, ?_⟩))
            go_ret
            exact ⟨⟨true, rfl, ⟨fun h => (by cases h), fun h => by have := (h.2 y (List.mem_of_getElem? HYK.out)).2.1; omega⟩⟩, hst.nil⟩
          · have d3 : decide (300 < (y.bn : Int)) = false := decide_eq_false (by omega)
            have z1 : IntKind.i64.wrap ((k : Int) + 1) = (k : Int) + 1 := IntWalk.i64_in _ (by omega)
            go_wp2_with (first | go_big_skip | go_big_guard | (refine wl_loadE rfl rfl rfl ?_; first | refine ⟨_, L3, ?_⟩ | refine ⟨_, L4, ?_⟩ | refine ⟨_, L5, ?_⟩) | (apply wl_bsX [.agg (List.toArray y.x.cells)] y.x.cells hst; rfl; rfl; exact rfl; exact rfl; infer_instance; infer_instance; rfl; rfl; rfl; intro g12 w2 hs2; clear hst) | (apply wl_appX [_] hs2; rfl; rfl; exact rfl; exact rfl; infer_instance; infer_instance; infer_instance; exact (Rd.blk0 hs2 rfl (by decide)); exact rfl; (unfold maxLen; omega); intro v1 w3 hs3 _; clear hs2; obtain ⟨a4, c4, rfl⟩ := St.rowSliceAt [_] hs3))
            go_roundw
            case rel =>
              refine ⟨k + 1, by omega, by omega, rfl, hid (fun j z hj hz => ?_), ?_⟩
              · rcases Nat.lt_or_ge j k with h9 | h9
                · exact hall.out j z h9 hz
                · obtain rfl : j = k := by omega
                  rw [HYK.out] at hz
                  cases hz
                  exact ⟨by rw [HPL.out]; omega, by omega⟩
              · rw [accs_snoc ys k y HYK.out]
                exact St.tl hs3
            case measure => simp [intOf]; omega
      · have d1 : decide ((k : Int) < (N : Int)) = true := decide_eq_true (by omega)
        have d0 : decide ((k : Int) < 101) = false := decide_eq_false (by omega)
        go_wp2_with (first | go_big_skip | go_big_guard | (go_at_call 20; refine (longC_any va k vc _ _ (Rd.row hst (.head _)) (by rw [List.length_map, List.length_take, HN.out]; omega) (fun z hz => by obtain ⟨y, hy, rfl⟩ := List.mem_map.1 hz; exact ((HYY.out y (List.mem_of_mem_take hy)).x).old hst)).mono ?_; rintro _ w9 ⟨⟨bb, rfl, hbb⟩, h4⟩; have hst9 := St.call0 hst h4; have HBB := hid hbb; clear h4 hst hbb))
        go_ret
        exact ⟨⟨bb, rfl, ⟨fun h => absurd (HBB.out.1 h).1 (by omega), fun h => absurd h.1 (by omega)⟩⟩, hst9.nil⟩
    · have e : N = k := by omega
      subst e
      have d1 : decide ((N : Int) < (N : Int)) = false := by simp
      go_wp2_with (first | go_big_skip | go_big_guard | (go_at_call 20; refine (longC_any va N vc _ _ (Rd.row hst (.head _)) (by rw [List.length_map, List.length_take, HN.out]; omega) (fun z hz => by obtain ⟨y, hy, rfl⟩ := List.mem_map.1 hz; exact ((HYY.out y (List.mem_of_mem_take hy)).x).old hst)).mono ?_; rintro _ w9 ⟨⟨bb, rfl, hbb⟩, h4⟩; have hst9 := St.call0 hst h4; have HBB := hid hbb; clear h4 hst hbb))
      go_ret
      refine ⟨⟨bb, rfl, HBB.out.trans ?_⟩, hst9.nil⟩
      rw [List.take_of_length_le (by rw [HN.out]; exact Nat.le_refl _)]
      constructor
      · rintro ⟨h1, h2⟩
        refine ⟨h1, fun y hy => ?_⟩
        obtain ⟨j, hj, rfl⟩ := List.getElem_of_mem hy
        have h3 := hall.out j _ (by rw [← HN.out]; exact hj) (List.getElem?_eq_getElem hj)
        have h4 := h2 _ (List.mem_map_of_mem hy)
        exact ⟨h3.1, h3.2, h4.1, h4.2⟩
      · rintro ⟨h1, h2⟩
        refine ⟨h1, fun z hz => ?_⟩
        obtain ⟨y, hy, rfl⟩ := List.mem_map.1 hz
        exact (h2 y hy).2.2
end
end Go.Proofs.YtmdfbdfijnmhkaaGreat
namespace Go.Proofs.YtmdfbdfijnmhkaaGreat
set_option linter.unusedVariables false
set_option linter.unusedSimpArgs false
open Go.ChangeShapes Go.WideShapes Go.ChangeAt Go.RowKit Go.Deep Go.Lib Go.Joins Hp
set_option maxRecDepth 100000
theorem cellsMa : Tryz.prog.cellsOf 69 = 45 := by kernel_rfl
def MCL : Type := { x : MC // L32 x.p.S }
instance inhMCL : Inhabited MCL := ⟨⟨⟨0, 0, ⟨.slice none 0 0, [], 0, 0, nones⟩, none, 0, 0, [], ⟨0, 0, 0, 0, 0, none, 0, 0, [], none, 0, 0, []⟩⟩, L32.nones⟩⟩
theorem open_actM {H : Type} {enc : TypeId × Value → H} {W : World} (fuel : Nat) (cs : List Value) (x : DataW H × List MemPlace) (hl : cs.length = 45)
    (h : DataW.trod enc Tryz.prog W 0 (fun _ => true) true fuel 69 cs = some x) : ∃ k : MCL, cs = k.1.cells ∧ k.1.Ok W := by
  obtain ⟨xs, n, _, _, _, hlen, hf⟩ := DataW.trod_struct Tryz.underlying69 h
  have hlen' : xs.length = 5 := hlen
  have g0 := hf 0 _ rfl
  have g1 := hf 1 _ rfl
  have g2 := hf 2 _ rfl
  have g3 := hf 3 _ rfl
  have g4 := hf 4 _ rfl
  clear hf h
  match xs, hlen' with
  | [y0, y1, y2, y3, y4], _ =>
    match cs, hl with
    | a :: b :: C, hl =>
      have hCl : C.length = 43 := by simpa using hl
      have f0 : DataW.trod enc Tryz.prog W 0 (fun _ => true) true n 3 (List.take (Tryz.prog.cellsOf 3) (List.drop 0 (a :: b :: C))) = some y0 := g0
      have f1 : DataW.trod enc Tryz.prog W 0 (fun _ => true) true n 3 (List.take (Tryz.prog.cellsOf 3) (List.drop 1 (a :: b :: C))) = some y1 := g1
      have f2 : DataW.trod enc Tryz.prog W 0 (fun _ => true) true n 34 (List.take (Tryz.prog.cellsOf 34) (List.drop 2 (a :: b :: C))) = some y2 := g2
      have f3 : DataW.trod enc Tryz.prog W 0 (fun _ => true) true n 28 (List.take (Tryz.prog.cellsOf 28) (List.drop 37 (a :: b :: C))) = some y3 := g3
      have f4 : DataW.trod enc Tryz.prog W 0 (fun _ => true) true n 49 (List.take (Tryz.prog.cellsOf 49) (List.drop 38 (a :: b :: C))) = some y4 := g4
      obtain ⟨z0, w0, _, u0⟩ := DataW.trod_int Tryz.underlying3 (show DataW.trod enc Tryz.prog W 0 (fun _ => true) true n 3 [a] = some y0 from by rw [cellsI] at f0; exact f0)
      obtain ⟨z1, w1, _, u1⟩ := DataW.trod_int Tryz.underlying3 (show DataW.trod enc Tryz.prog W 0 (fun _ => true) true n 3 [b] = some y1 from by rw [cellsI] at f1; exact f1)
      obtain ⟨p, w2, hp⟩ := open_ptrD (W := W) (x := y2) (L := C.take 35) (by rw [List.length_take]; omega) (by
        rw [cellsP] at f2
        simpa only [List.drop_succ_cons, List.drop_zero] using f2)
      rw [cellsLub] at f3
      rw [cellsAct] at f4
      simp only [List.drop_succ_cons] at f3 f4
      obtain ⟨bo, bn, bc, B, w3, r3, l3⟩ := open_bytesN f3
      obtain ⟨y, w4, hy⟩ := open_act n _ _ (by rw [List.length_take, List.length_drop]; omega) f4
      have e : C = p.cells ++ (.slice bo bn bc :: y.cells) := by
        have e1 : C.drop 35 = (C.drop 35).take 1 ++ C.drop 36 := by
          conv => lhs; rw [← List.take_append_drop 1 (C.drop 35)]
          rw [List.drop_drop]
        have e2 : (C.drop 36).take 7 = C.drop 36 := List.take_of_length_le (by rw [List.length_drop]; omega)
        rw [e2] at w4
        rw [w3, w4] at e1
        rw [← List.take_append_drop 35 C, w2, e1]
        rfl
      cases w0; cases w1
      subst e
      exact ⟨⟨⟨z0, z1, p, bo, bn, bc, B, y⟩, hp.1⟩, rfl, ⟨i64_wfL u0, i64_wfL u1, hp, r3, l3, hy⟩⟩
end Go.Proofs.YtmdfbdfijnmhkaaGreat
namespace Go.Proofs.YtmdfbdfijnmhkaaGreat
set_option linter.unusedVariables false
set_option linter.unusedSimpArgs false
open Go.ChangeShapes Go.WideShapes Go.ChangeAt Go.RowKit Go.Deep Go.Lib Go.Joins Hp
set_option maxRecDepth 100000
theorem open_actsM {H : Type} {enc : TypeId × Value → H} {W : World} {fuel : Nat} {cs : List Value} {x : DataW H × List MemPlace}
    (h : DataW.trod enc Tryz.prog W 0 (fun _ => true) true fuel 62 cs = some x) : ∃ ao n c, ∃ ks : List MCL, cs = [.slice ao n c] ∧ Rd W (.slice ao n c) 45 n (ks.flatMap fun k => k.1.cells) ∧ ks.length = n ∧ ∀ x ∈ ks, x.1.Ok W :=
  open_structsD (α := MCL) (f := fun k => k.1.cells) (sz := 45) (fun a => MC.len a.2) (by decide) (fun k W => k.1.Ok W) Tryz.underlying62 cellsMa open_actM h
theorem open_ys {W : World} {v : Value} {n : Nat} {ks : List MCL} (h : Rd W v 45 n (ks.flatMap fun k => k.1.cells)) (hn : ks.length = n) (hk : ∀ x ∈ ks, x.1.Ok W) : ∃ ys : List MC, Rd W v 45 n (ys.flatMap MC.cells) ∧ ys.length = n ∧ ∀ y ∈ ys, y.Ok W := by
  refine ⟨ks.map (·.1), ?_, by rw [List.length_map, hn], fun y hy => ?_⟩
  · rw [List.flatMap_map]
    exact h
  · obtain ⟨k, hm, rfl⟩ := List.mem_map.1 hy
    exact hk k hm
theorem open_actsMV {H : Type} {enc : TypeId × Value → H} {W : World} {base fuel : Nat} {v : Value} {x : DataW H × List MemPlace} (hv : Value.okWide Tryz.prog W .any base 62 v)
    (h : DataW.trod enc Tryz.prog W 0 (fun _ => true) true fuel 62 v.cells.toList = some x) : ∃ ao n c, ∃ ys : List MC, v = .slice ao n c ∧ Rd W (.slice ao n c) 45 n (ys.flatMap MC.cells) ∧ ys.length = n ∧ ∀ y ∈ ys, y.Ok W := by
  obtain ⟨aq, nq, cq, rfl⟩ := okWide_slice Tryz.underlying62 hv
  obtain ⟨ao, n, c, ks, e, hA, hn, hk⟩ := open_actsM h
  simp [Value.cells] at e
  obtain ⟨rfl, rfl, rfl⟩ := e
  obtain ⟨ys, h1, h2, h3⟩ := open_ys hA hn hk
  exact ⟨_, _, _, ys, rfl, h1, h2, h3⟩
end Go.Proofs.YtmdfbdfijnmhkaaGreat
namespace Go.Proofs.YtmdfbdfijnmhkaaGreat
set_option linter.unusedVariables false
set_option linter.unusedSimpArgs false
open Go.RowKit Hp
attribute [local irreducible] Go.Calls Go.wpList
set_option maxRecDepth 100000
set_option maxHeartbeats 4000000
def sect (b : UInt8) : List UInt8 := List.replicate 256 b
theorem sect_len (b : UInt8) : (sect b).length = 256 := List.length_replicate
theorem rep_put16 (j n : Nat) (b z : Value) (h : j < n) : putAt (List.replicate j b ++ List.replicate (n - j) z) j [b] = List.replicate (j + 1) b ++ List.replicate (n - (j + 1)) z := by
  have key : n - j = (n - (j + 1)) + 1 := by omega
  rw [putAt_many, key, List.replicate_succ]
  rw [List.take_append_of_le_length (by simp), List.take_of_length_le (by simp), List.drop_append, List.drop_of_length_le (by simp), List.nil_append, List.length_replicate, List.length_singleton, show j + 1 - j = 1 by omega, List.drop_one, List.tail_cons, ← List.append_assoc, List.replicate_succ']
theorem of16_any (b : UInt8) (w : World) : Calls Tryz.prog 11 #[.int .u8 b.toNat] w fun e w' => ∃ g, e = .returned (.slice (some ⟨g, 0, none⟩) 256 256) ∧ St w [] w' [.blk g 5 (bytesV (sect b))] := by
  have hst0 := St.refl w
  go_enter Tryz.func11, Tryz.ntmps11
  go_wp2_with (first | go_big_skip | go_big_guard | (apply wl_make 256 256 hst0; rfl; rfl; exact rfl; exact rfl; infer_instance; infer_instance; infer_instance; exact rfl; exact rfl; decide; decide; intro g _ hst1; clear hst0))
  go_loopw [4] (fun i wr => ∃ j : Nat, j ≤ 256 ∧ i = .int .i64 (j : Int) ∧ St w [] wr [.blk g 5 (List.replicate j (.int .u8 b.toNat) ++ List.replicate (256 - j) (.int .u8 0))]) (fun i _ => 256 - (intOf i).toNat)
  case atStart => exact ⟨0, by decide, rfl, hst1⟩
  case round =>
    clear hst1
    obtain ⟨j, hj, rfl, hst⟩ := hrel
    by_cases hlj : j < 256
    · have d1 : decide ((j : Int) < 256) = true := decide_eq_true (by omega)
      have z1 : IntKind.i64.wrap ((j : Int) + 1) = (j : Int) + 1 := IntWalk.i64_in _ (by omega)
      have HP := hid (rep_put16 j 256 (.int .u8 b.toNat) (.int .u8 0) hlj)
      have HL := hid (show j * 1 + 1 ≤ (List.replicate j (Value.int .u8 b.toNat) ++ List.replicate (256 - j) (Value.int .u8 0)).length by rw [List.length_append, List.length_replicate, List.length_replicate]; omega)
      obtain ⟨CS, hCS⟩ : ∃ CS, CS = List.replicate j (Value.int .u8 b.toNat) ++ List.replicate (256 - j) (Value.int .u8 0) := ⟨_, rfl⟩
      rw [← hCS] at hst HP HL
      clear hCS
      go_wp2_with (first | go_big_skip | go_big_guard | (refine wl_index (k := j) rfl rfl rfl rfl hlj ?_) | (refine wl_store [] hst rfl rfl rfl (v := .int _ _) rfl rfl rfl (by rw [Nat.zero_add]; exact HL.out) ?_; intro w5 hst2; clear hst))
      go_roundw
      case rel =>
        refine ⟨j + 1, by omega, rfl, ?_⟩
        rw [← HP.out]
        rw [Nat.zero_add, Nat.mul_one] at hst2
        exact hst2
      case measure => simp [intOf]; omega
    · have d1 : decide ((j : Int) < 256) = false := decide_eq_false (by omega)
      have hjn : j = 256 := by omega
      subst hjn
      go_wp2_with (first | go_big_skip | go_big_guard | fail)
      go_ret
      refine ⟨g, rfl, ?_⟩
      have e : bytesV (sect b) = List.replicate 256 (.int .u8 b.toNat) := by simp [bytesV, sect]
      rw [e]
      have := hst
      rw [Nat.sub_self, List.replicate_zero, List.append_nil] at this
      exact this
def onDevs (k : Nat) : List (Int × Int) := (List.range k).map fun (i : Nat) => ((i : Int), (5 : Int))
theorem onDevs_len (k : Nat) : (onDevs k).length = k := by simp [onDevs]
theorem onDevs_succ (k : Nat) : onDevs (k + 1) = onDevs k ++ [((k : Int), 5)] := by simp [onDevs, List.range_succ]
theorem ptr_places (ps : List (Nat × Value)) : Tryz.prog.built 34 ps = Instr.fill (#[(0, 1), (1, 1), (2, 1), (3, 32)][·]?) (Array.mk (.slice none 0 0 :: .int .i64 0 :: .int .i64 0 :: List.replicate 32 (.int .u8 0))) ps := by kernel_rfl
theorem built_ptr {d : Int} {S : List UInt8} (hb : S.length = 32) : Tryz.prog.built 34 [(1, .int .i64 d), (3, .agg (bytesV S).toArray)] = some (ptrCells (.slice none 0 0) d 0 S).toArray := by
  rw [ptr_places]
  have h1 := fold_set 3 (bytesV S) 0 [.slice none 0 0, .int .i64 d, .int .i64 0] (List.replicate 32 (.int .u8 0)) rfl (by rw [length_bytesV, hb, List.length_replicate]; exact Nat.le_refl _)
  have hl : (bytesV S).length = 32 := by rw [length_bytesV, hb]
  obtain ⟨Z, hZ⟩ : ∃ Z : List Value, Z = List.replicate 32 (.int .u8 0) := ⟨_, rfl⟩
  have hz : Z.length = 32 := by rw [hZ, List.length_replicate]
  rw [← hZ] at h1 ⊢
  have hc : (Value.agg (bytesV S).toArray).cells = (bytesV S).toArray := rfl
  have e0 : Instr.fill (#[(0, 1), (1, 1), (2, 1), (3, 32)][·]?) (Array.mk (.slice none 0 0 :: .int .i64 0 :: .int .i64 0 :: Z)) [(1, .int .i64 d), (3, .agg (bytesV S).toArray)] = Instr.fill (#[(0, 1), (1, 1), (2, 1), (3, 32)][·]?) (Array.mk (.slice none 0 0 :: .int .i64 d :: .int .i64 0 :: Z)) [(3, .agg (bytesV S).toArray)] := by
    simp [Instr.fill, Value.cells]
    omega
  rw [e0]
  simp only [Instr.fill, hc]
  rw [show (#[(0, 1), (1, 1), (2, 1), (3, 32)] : Array (Nat × Nat))[3]? = some (3, 32) from rfl]
  dsimp only
  rw [if_neg (by simp [hb, hz])]
  rw [← Array.foldl_toList, Array.toList_zipIdx]
  have h2 : List.foldl (fun (cs : Array Value) (x : Value × Nat) => match x with | (c, j) => cs.setIfInBounds (3 + j) c) (Array.mk (Value.slice none 0 0 :: Value.int .i64 d :: Value.int .i64 0 :: Z)) (bytesV S).zipIdx = ([Value.slice none 0 0, Value.int .i64 d, Value.int .i64 0] ++ (bytesV S ++ Z.drop (bytesV S).length)).toArray := h1
  rw [List.toList_toArray, h2, hl, List.drop_of_length_le (by omega), List.append_nil]
  rfl
theorem results_cellQ {fn : Func} {p : Tmp} {ty : TypeId} {tmps : Array Value} {P : Program} {w : World} {A : Addr} {v : Value} (h : fn.results = #[.cell p ty]) (hp : tmps.getD p undef = .pointer (some A)) (hl : Loads P w ty A v) :
    (results fn tmps).run P w = .ok v w := by
  have hl' : (loadVar ty A).run P w = .ok v w := hl
  have hp' : tmps[p]?.getD undef = .pointer (some A) := by simpa using hp
  simp [results, h, hp', asAddr, hl', Sem.run_bind]
section
theorem storedPt (A : Addr) (v : Value) : storeVar 34 A v = storeVarH 34 A v := rfl
theorem loadedPt (A : Addr) : loadVar 34 A = loadVarH 34 A := rfl
attribute [local go_sem ↓] storedPt loadedPt
theorem points_any {w0 w : World} {M : List Nat} {L : List HA} (hS : St w0 M w L) (ao : Option Addr) (n c : Nat) (bs : List UInt8) (hr : ∀ w, St w0 M w L → Rd w (.slice ao n c) 1 n (bytesV bs)) (hn : bs.length = n) (hb : n ≤ 100000) (k : Nat) (hk : k ≤ 1000) :
    Calls Tryz.prog 12 #[.slice ao n c, .int .i64 k] w fun e w' => ∃ sa sc, e = .returned (.agg (ptrCells (.slice sa k sc) 1 0 (sumB bs)).toArray) ∧ St w0 M w' (.row (.slice sa k sc) 83 2 k (addrsV (onDevs k)) :: L) := by
  have hst := hS
  have HR := hid hr
  have HN := hid hn
  obtain ⟨S, hS2⟩ : ∃ S, S = sumB bs := ⟨_, rfl⟩
  have HS2 := hid hS2.symm
  have hs32 : S.length = 32 := by rw [hS2]; exact length_bytesS _
  have HL := hid (show L32 S from hs32)
  have HB := hid (built_ptr (d := 1) hs32)
  rw [← hS2]
  clear hS hr hn hS2 hs32
  go_enter Tryz.func12, Tryz.ntmps12
  go_wp2_with (first | go_big_skip | go_big_guard | (refine wl_alloc (T := 34) hst rfl rfl ?_; intro g4 w1 hst1; clear hst) | (go_at_call 23; refine (sum_any ao n c bs _ (HR.out _ (St.tl hst1)) HN.out hb).mono ?_; rw [HS2.out]; rintro _ w2 ⟨rfl, h4⟩; have hst2 := St.call0 hst1 h4; clear h4 hst1) | (refine wl_buildX (cs := ptrCells (.slice none 0 0) 1 0 S) [(1, .int .i64 1), (3, .agg (List.toArray (bytesV S)))] rfl rfl (by exact rfl) (by exact HB.out) ?_) | (refine wl_alloc (T := 34) hst2 rfl rfl ?_; intro g5 w3 hst3; clear hst2) | (refine wl_storeA [] hst3 rfl rfl rfl rfl (ptr_len HL.out _ _ _) (ptr_ones _ _ _ _ _ _) (ptr_len L32.nones _ _ _) ?_; intro w4 hst4; clear hst3))
  have hst5 := St.nilRow 83 2 hst4
  clear hst4
  go_loopw [6] (fun i wr => ∃ j : Nat, j ≤ k ∧ i = .int .i64 (j : Int) ∧ ∃ sv, St w0 M wr (.row sv 83 2 j (addrsV (onDevs j)) :: .blk g5 34 (ptrCells sv 1 0 S) :: .blk g4 34 (ptrCells (.slice none 0 0) 0 0 nones) :: L)) (fun i _ => k - (intOf i).toNat)
  case atStart => exact ⟨0, Nat.zero_le _, rfl, _, hst5⟩
  case round =>
    clear hst5
    obtain ⟨j, hj, rfl, sv, hst⟩ := hrel
    obtain ⟨sa, sc, rfl⟩ := St.rowSliceAt [] hst
    by_cases hlj : j < k
    · have d1 : decide ((j : Int) < (k : Int)) = true := decide_eq_true (by omega)
      have z1 : IntKind.i64.wrap ((j : Int) + 1) = (j : Int) + 1 := IntWalk.i64_in _ (by omega)
      go_wp2_with (first | go_big_skip | go_big_guard | (refine wl_loadE rfl rfl rfl ?_; refine ⟨_, Loads.at (P := Tryz.prog) [_] hst rfl, ?_⟩) | (refine wl_buildX (cs := [.int .i64 (j : Int), .int .i64 5]) [(0, .int .i64 (j : Int)), (1, .int .i64 5)] rfl rfl (by exact rfl) (by kernel_rfl) ?_) | (apply wl_bsX [.agg (List.toArray [.int .i64 (j : Int), .int .i64 5])] [.int .i64 (j : Int), .int .i64 5] hst; rfl; rfl; exact rfl; exact rfl; infer_instance; infer_instance; rfl; rfl; rfl; intro g12 w2 hs2; clear hst) | (apply wl_appX [_] hs2; rfl; rfl; exact rfl; exact rfl; infer_instance; infer_instance; infer_instance; exact (Rd.blk0 hs2 rfl (by decide)); exact rfl; (unfold maxLen; omega); intro v1 w3 hs3 _; clear hs2; obtain ⟨a4, c4, rfl⟩ := St.rowSliceAt [_] hs3) | (refine wl_store [_, _] hs3 rfl rfl rfl (v := .slice _ _ _) rfl rfl rfl ?_ ?_; exact Nat.le_add_left _ _; intro w4 hs4; clear hs3))
      go_roundw
      case rel =>
        refine ⟨j + 1, by omega, rfl, .slice a4 (j + 1) c4, ?_⟩
        rw [onDevs_succ, addrsV_snoc]
        exact St.tl hs4
      case measure => simp [intOf]; omega
    · have d1 : decide ((j : Int) < (k : Int)) = false := decide_eq_false (by omega)
      have hjn : j = k := by omega
      subst hjn
      go_wp2_with (first | go_big_skip | go_big_guard | (refine wl_loadE rfl rfl rfl ?_; refine ⟨_, Loads.atA (P := Tryz.prog) (ptrCells (.slice sa j sc) 1 0 S) [_] hst (ptr_len HL.out _ _ _) (ptr_all _ _ _ _), ?_⟩) | (refine wl_storeA [_, _] hst rfl rfl rfl rfl (ptr_len HL.out _ _ _) (ptr_ones _ _ _ _ _ _) (ptr_len L32.nones _ _ _) ?_; intro w4 hst4; clear hst))
      refine bodyPost_ret (results_cellQ rfl rfl (Loads.atA (P := Tryz.prog) (ptrCells (.slice sa j sc) 1 0 S) [_, _] hst4 (ptr_len HL.out _ _ _) (ptr_all _ _ _ _))) rfl ⟨sa, sc, rfl, St.sub hst4 (.cons_cons _ (.cons _ (.cons _ (List.Sublist.refl _))))⟩
end
end Go.Proofs.YtmdfbdfijnmhkaaGreat
namespace Go.Proofs.YtmdfbdfijnmhkaaGreat
set_option linter.unusedVariables false
set_option linter.unusedSimpArgs false
open Go.RowKit Hp
attribute [local irreducible] Go.Calls Go.wpList
set_option maxRecDepth 100000
set_option maxHeartbeats 4000000
theorem newA_mg {s d : Nat} {gs : List Nat} (hd : 2 ≤ d ∧ d ≤ 8) (hs : 8 ≤ s ∧ s ≤ 4096) (hg : gs.length = d) : MGood ⟨newA s gs, zeroE⟩ 0 := by
  refine ⟨⟨newA_ok ⟨by omega, by omega⟩ (by omega), ?_, ⟨Int.le_refl _, Int.le_refl _⟩, Nat.le_refl _⟩, rfl, ?_⟩
  · cases gs with
    | nil => simp at hg; omega
    | cons g l =>
      show 8 ≤ (blank s g).firm.length
      rw [show (blank s g).firm.length = s from List.length_replicate]
      exact hs.1
  · intro e he
    rw [List.eq_of_mem_replicate he]
    decide
theorem wrote_good {m : MV} {b : List UInt8} : ∀ {l : List (Int × Int)} {a : AR} {k N : Nat}, MGood (m.withA a) N → MGood (m.withA (wrote16 b a k l).a) (N + l.length)
  | [], a, k, N, h => by
    unfold wrote16 some16
    split <;> exact h
  | z :: l, a, k, N, h => by
    have h1 : MGood (m.withA (a.write z.1 z.2 b)) (N + 1) := h.arr (h.sc.ok.write _ _ _) (Stays.write _ _ _ _)
    rw [show N + (z :: l).length = N + 1 + l.length by rw [List.length_cons]; omega]
    unfold wrote16
    split
    · exact wrote_good h1
    · split
      · exact h1.mono (Nat.le_add_right _ _)
      · exact wrote_good h1
theorem put_good {m : MV} {N : Nat} (h : MGood m N) (l : List (Int × Int)) (b : List UInt8) : MGood (m.withA (m.put l b).a) (N + l.length) := by
  unfold MV.put
  split
  · exact wrote_good h
  · exact MGood.mono h (Nat.le_add_right _ _)
theorem flushed_good {m : MV} {d : Nat} : ∀ {k : Nat} {a : AR} {n N : Nat}, MGood (m.withA a) N → MGood (m.withA (flushed16 d k a n).a) (N + k)
  | 0, a, n, N, h => by
    unfold flushed16 some16
    split <;> exact h
  | k + 1, a, n, N, h => by
    have h1 : MGood (m.withA (a.flush ((d - (k + 1) : Nat) : Int))) (N + 1) := h.arr (h.sc.ok.flush _) (Stays.flush _ _)
    rw [show N + (k + 1) = N + 1 + k by omega]
    unfold flushed16
    split
    · exact (flushed_good h).mono (by omega)
    · split
      · exact flushed_good h1
      · split
        · exact h1.mono (Nat.le_add_right _ _)
        · exact flushed_good h1
theorem flush_good {m : MV} {N : Nat} (h : MGood m N) : MGood (m.withA m.flush.a) (N + m.a.devs.length) := by
  unfold MV.flush
  split
  · exact MGood.mono h (Nat.le_add_right _ _)
  · exact flushed_good h
theorem made16_any (w : World) : Calls Tryz.prog 9 #[] w fun e w' => ∃ gm ga x gs, e = .returned (.tuple #[.pointer (some ⟨ga, 0, none⟩), PM gm]) ∧ gs.length = 3 ∧ St w [] w' (mP gm ga x ⟨newA 8 gs, zeroE⟩) := by
  have hst0 := St.refl w
  go_enter Tryz.func9, Tryz.ntmps9
  go_wp2_with (first | go_big_skip | go_big_guard | (go_at_call 28; refine (newM_any 3 8 (by decide) (by decide) _).mono ?_; rintro _ w1 ⟨ga, x, gs, rfl, hgl, h4⟩; have hst1 : St w [] w1 (arP ga x (newA 8 gs) ++ []) := St.call hst0 h4; have HGL := hid hgl; clear h4 hgl hst0) | (go_at_call 30; refine (mirNew_any hst1 (by intro h; have h2 := congrArg List.length h; rw [show (newA 8 gs).devs.length = 3 from (List.length_map _).trans HGL.out] at h2; cases h2)).mono ?_; rintro _ w2 ⟨gm, rfl, h4⟩; have hst2 : St w [] w2 (mP gm ga x ⟨newA 8 gs, zeroE⟩) := (by rw [List.append_nil] at h4; exact h4); clear h4 hst1; unfold PM))
  go_ret2
  exact ⟨gm, ga, x, gs, rfl, HGL.out, hst2⟩
section
theorem loadedPt2 (A : Addr) : loadVar 34 A = loadVarH 34 A := rfl
attribute [local go_sem ↓] loadedPt2 loadedAs8
theorem puts_any {w0 w : World} {M : List Nat} {R : List HA} {gm ga : Nat} {x : GA} {m : MV} {N : Nat} (hS : St w0 M w (mP gm ga x m ++ R)) (hg : MGood m N) (ao : Option Addr) (n c : Nat) (l : List (Int × Int)) (b v : Int) (S : List UInt8) (hL : L32 S) (hA : ∀ w, St w0 M w R → Rd w (.slice ao n c) 2 n (addrsV l)) (hn : l.length = n) (bo : Option Addr) (bn bc : Nat) (bs : List UInt8) (hb : GB w0 M R (.slice bo bn bc) bn bs) (hN : N + n ≤ 800000) (A1 A2 : AR) (h1 : m.put l bs = ⟨0, n, A1⟩) (h2 : (m.withA A1).flush = ⟨0, 3, A2⟩) :
    Calls Tryz.prog 13 #[PM gm, .agg (ptrCells (.slice ao n c) b v S).toArray, .slice bo bn bc] w fun e w' => ∃ x', e = .returned (.bool true) ∧ St w0 M w' (mP gm ga x' (m.withA A2) ++ R) := by
  have hst := hS
  have HG := hid hg
  have HL := hid hL
  have HN := hid hn
  have HA := hid hA
  have HB := hid hb
  have HG2 := hid (show MGood (m.withA A1) (N + n) from by have := put_good hg l bs; rw [h1, hn] at this; exact this)
  have H1 := hid h1
  have H2 := hid h2
  clear hS hg hL hn hA hb h1 h2
  unfold PM
  go_enter Tryz.func13, Tryz.ntmps13
  go_wp2_with (first | go_big_skip | go_big_guard | (refine wl_boxA hst rfl rfl rfl ?_; intro g3 w1 hst0; clear hst; have hst1 : St w0 M w1 (mP gm ga x m ++ (.blk g3 34 (ptrCells (.slice ao n c) b v S) :: R)) := St.behind (A := mP gm ga x m) hst0; clear hst0) | (refine wl_loadE rfl rfl rfl ?_; first | refine ⟨_, Loads.at (P := Tryz.prog) [] hst0 rfl, ?_⟩ | refine ⟨_, Loads.blk (P := Tryz.prog) hst1 TyS.out (List.mem_append_right _ (.head _)) rfl, ?_⟩ | refine ⟨_, Loads.blk (P := Tryz.prog) hst2 TyS.out (List.mem_append_right _ (.head _)) rfl, ?_⟩ | refine ⟨_, Loads.blk (P := Tryz.prog) hst3 TyS.out (List.mem_append_right _ (.head _)) rfl, ?_⟩) | (go_at_call 24; have HC := put_any hst1 HG.out ao n c l (fun w h => HA.out w (St.sub h (List.sublist_cons_self _ _))) HN.out bo bn bc bs (GB.more (P := [_]) HB.out) (by omega); rw [H1.out] at HC; refine HC.mono ?_; clear HC; rintro _ w2 ⟨x2, rfl, h4⟩; have hst2 := h4; clear h4 hst1) | (go_at_call 26; have HC := mflush_any hst2 HG2.out hN; rw [H2.out] at HC; refine HC.mono ?_; clear HC; rintro _ w3 ⟨x3, rfl, h4⟩; have hst3 : St w0 M w3 (mP gm ga x3 (m.withA A2) ++ _) := h4; clear h4 hst2))
  go_ret
  exact ⟨x3, rfl, sub_x hst3⟩
theorem gets_any {w0 w : World} {M : List Nat} {R : List HA} {gm ga : Nat} {x : GA} {m : MV} {N : Nat} (hS : St w0 M w (mP gm ga x m ++ R)) (hg : MGood m N) (ao : Option Addr) (n c : Nat) (l : List (Int × Int)) (b v : Int) (S : List UInt8) (hL : L32 S) (hA : ∀ w, St w0 M w R → Rd w (.slice ao n c) 2 n (addrsV l)) (hn : l.length = n) (bo : Option Addr) (bn bc : Nat) (bs : List UInt8) (hb : GB w0 M R (.slice bo bn bc) bn bs) (hN : N + 2 * n ≤ 900000) (hbn : bn ≤ 100000) (m' : MV) (h1 : m.get (PVof ao n c l b v S) = ⟨0, bs, m'⟩) :
    Calls Tryz.prog 25 #[PM gm, .agg (ptrCells (.slice ao n c) b v S).toArray, .slice bo bn bc] w fun e w' => ∃ x', e = .returned (.bool true) ∧ St w0 M w' (mP gm ga x' m' ++ R) := by
  have hst := hS
  have HG := hid hg
  have HL := hid hL
  have HN := hid hn
  have HA := hid hA
  have HB := hid hb
  have H1 := hid h1
  clear hS hg hL hn hA hb h1
  unfold PM
  go_enter Tryz.func25, Tryz.ntmps25
  go_wp2_with (first | go_big_skip | go_big_guard | (refine wl_boxA hst rfl rfl rfl ?_; intro g3 w1 hst0; clear hst; have hst1 : St w0 M w1 (mP gm ga x m ++ (.blk g3 34 (ptrCells (.slice ao n c) b v S) :: R)) := St.behind (A := mP gm ga x m) hst0; clear hst0) | (refine wl_loadE rfl rfl rfl ?_; refine ⟨_, Loads.blkA (P := Tryz.prog) (T := 34) (vs := ptrCells (.slice ao n c) b v S) hst1 (by rw [ptr_len HL.out]; exact TyA.out) (List.mem_append_right _ (.head _)) (ptr_all _ _ _ _), ?_⟩) | (go_at_call 22; have HC := get_any hst1 HG.out ao n c l b v S HL.out HN.out (fun w h => HA.out w (St.sub h (List.sublist_cons_self _ _))) hN; rw [H1.out] at HC; refine HC.mono ?_; clear HC; rintro _ w2 ⟨u, x2, rfl, h4⟩; obtain ⟨ua, uc, rfl⟩ := St.rowPSlice [] h4; have hst2 := h4; clear h4 hst1) | (go_at_call 18; refine (sameBytes_any _ _ _ _ bs bs _ (Rd.rowP hst2 (.head _)) (HB.out.rd _ (St.sub hst2 (.cons _ ((List.sublist_cons_self _ _).trans (List.sublist_append_right _ _)))))).mono ?_; rw [beq_self_eq_true]; rintro _ w3 ⟨rfl, h4⟩; have hst3 := St.call0 hst2 h4; clear h4 hst2))
  go_ret
  exact ⟨x2, rfl, sub_x (St.tl hst3)⟩
end
end Go.Proofs.YtmdfbdfijnmhkaaGreat
namespace Go.Proofs.YtmdfbdfijnmhkaaGreat
set_option linter.unusedVariables false
set_option linter.unusedSimpArgs false
open Go.RowKit Hp
set_option maxRecDepth 100000
set_option maxHeartbeats 4000000
def dk (g : Nat) (s : List UInt8) : DV := ⟨g, [sect 0, sect 0, sect 0, sect 0, sect 0, s, sect 0, sect 0], false, false, false, 0, 0⟩
def AK (p q r : Nat) (a b c : List UInt8) (L : List LW) (st : Int) : AR := ⟨[dk p a, dk q b, dk r c], L, -1, false, st⟩
theorem newA_ak (p q r : Nat) : newA 8 [p, q, r] = AK p q r (sect 0) (sect 0) (sect 0) [] 0 := by kernel_rfl
theorem ak_rE0 (p q r : Nat) (a b c : List UInt8) (L : List LW) (st : Int) : (AK p q r a b c L st).readE 0 5 = 0 := by kernel_rfl
theorem ak_rd0 (p q r : Nat) (a b c : List UInt8) (L : List LW) (st : Int) : (AK p q r a b c L st).read 0 5 = AK p q r a b c L st := by kernel_rfl
theorem ak_rB0 (p q r : Nat) (a b c : List UInt8) (L : List LW) (st : Int) : (AK p q r a b c L st).readB 0 5 = L.foldl (pickW 0 5) a := by kernel_rfl
theorem ak_rE1 (p q r : Nat) (a b c : List UInt8) (L : List LW) (st : Int) : (AK p q r a b c L st).readE 1 5 = 0 := by kernel_rfl
theorem ak_rd1 (p q r : Nat) (a b c : List UInt8) (L : List LW) (st : Int) : (AK p q r a b c L st).read 1 5 = AK p q r a b c L st := by kernel_rfl
theorem ak_rB1 (p q r : Nat) (a b c : List UInt8) (L : List LW) (st : Int) : (AK p q r a b c L st).readB 1 5 = L.foldl (pickW 1 5) b := by kernel_rfl
theorem ak_ask2 (p q r : Nat) (a b c : List UInt8) (L : List LW) (st : Int) (e : List ER) (ao : Option Addr) (cc : Nat) (S : List UInt8) : (⟨AK p q r a b c L st, e⟩ : MV).askE (PVof ao 2 cc (onDevs 2) 1 0 S) = 0 := by kernel_rfl
theorem ak_put2 (p q r : Nat) (a b c : List UInt8) (st : Int) (e : List ER) (x : UInt8) : (⟨AK p q r a b c [] st, e⟩ : MV).put (onDevs 2) (sect x) = ⟨0, 2, AK p q r a b c [⟨0, 5, sect x⟩, ⟨1, 5, sect x⟩] (st + 1 + 1)⟩ := by kernel_rfl
theorem ak_flush2 (p q r : Nat) (a b c : List UInt8) (st : Int) (e : List ER) (x : UInt8) : (⟨AK p q r a b c [⟨0, 5, sect x⟩, ⟨1, 5, sect x⟩] st, e⟩ : MV).flush = ⟨0, 3, AK p q r (sect x) (sect x) c [] (st + 1 + 1 + 1)⟩ := by kernel_rfl
theorem kind_good {m : MV} {dev pl : Int} {S : List UInt8} (h1 : m.a.readE dev pl = 0) (h2 : sumB (m.a.readB dev pl) = S) : m.kind dev pl S = 0 := by
  unfold MV.kind
  rw [h1, if_neg (by decide), if_neg (by simp), if_pos h2]
theorem kind_ill {m : MV} {dev pl : Int} {S : List UInt8} (h1 : m.a.readE dev pl = 0) (h2 : sumB (m.a.readB dev pl) ≠ S) : m.kind dev pl S = 1 := by
  unfold MV.kind
  rw [h1, if_neg (by decide), if_neg (by simp), if_neg h2]
theorem lookd_good {m : MV} {dev pl : Int} {S : List UInt8} (h1 : m.a.readE dev pl = 0) (h2 : sumB (m.a.readB dev pl) = S) (h3 : m.a.read dev pl = m.a) : m.looked dev pl S = m := by
  unfold MV.looked
  rw [kind_good h1 h2, h1, if_neg (by decide), if_neg (by decide), h3]
theorem lookd_ill {m : MV} {dev pl : Int} {S : List UInt8} (h1 : m.a.readE dev pl = 0) (h2 : sumB (m.a.readB dev pl) ≠ S) (h3 : m.a.read dev pl = m.a) : m.looked dev pl S = ⟨m.a, m.e.modify dev.toNat fSm⟩ := by
  unfold MV.looked
  rw [kind_ill h1 h2, h1, if_neg (by decide), if_pos rfl, h3]
theorem found_hit {m : MV} {S : List UInt8} {but : Int} {x : Int × Int} {l ill : List (Int × Int)} (hb : x.1 ≠ but) (h1 : m.a.readE x.1 x.2 = 0) (h2 : sumB (m.a.readB x.1 x.2) = S) (h3 : m.a.read x.1 x.2 = m.a) : found S but m (x :: l) ill = ⟨0, m.a.readB x.1 x.2, ill, m⟩ := by
  conv => lhs; unfold found
  rw [if_neg hb, if_pos (kind_good h1 h2), lookd_good h1 h2 h3]
  unfold MV.lookB
  rw [if_pos (kind_good h1 h2)]
theorem found_miss {m : MV} {S : List UInt8} {but : Int} {x : Int × Int} {l ill : List (Int × Int)} (hb : x.1 ≠ but) (h1 : m.a.readE x.1 x.2 = 0) (h2 : sumB (m.a.readB x.1 x.2) ≠ S) (h3 : m.a.read x.1 x.2 = m.a) : found S but m (x :: l) ill = found S but ⟨m.a, m.e.modify x.1.toNat fSm⟩ l (ill ++ [x]) := by
  conv => lhs; unfold found
  rw [if_neg hb, kind_ill h1 h2, if_neg (by decide), if_pos rfl, lookd_ill h1 h2 h3]
theorem get_eq {m m' : MV} {P : PV} {B : List UInt8} {ill : List (Int × Int)} (ha : m.askE P = 0) (hf : found P.S (-1) m P.l [] = ⟨0, B, ill, m'⟩) : m.get P = ⟨0, B, m'.heals ill B⟩ := by
  unfold MV.get
  rw [ha, if_neg (by simp), hf, if_neg (by simp)]
def spo (s : List UInt8) (place : Nat) (m : UInt8) : List UInt8 := s.set place (s.getD place 0 ^^^ m)
def W2 (p q r : Nat) : MV := ⟨AK p q r (sect 2) (sect 2) (sect 0) [] 5, zeroE⟩
def W3 (p q r : Nat) : MV := ⟨AK p q r (spo (sect 2) 0 1) (sect 2) (sect 0) [] 5, zeroE⟩
def W4 (p q r : Nat) : MV := ⟨AK p q r (spo (sect 2) 0 1) (sect 2) (sect 0) [⟨0, 5, sect 2⟩] 6, [⟨0, 1, 1⟩, ⟨0, 0, 0⟩, ⟨0, 0, 0⟩, ⟨0, 0, 0⟩, ⟨0, 0, 0⟩, ⟨0, 0, 0⟩, ⟨0, 0, 0⟩, ⟨0, 0, 0⟩]⟩
theorem spo_bad : sumB (spo (sect 2) 0 1) ≠ sumB (sect 2) := by decide +kernel
theorem w2_get (p q r : Nat) (ao : Option Addr) (c : Nat) {S : List UInt8} (hS : sumB (sect 2) = S) : (W2 p q r).get (PVof ao 2 c (onDevs 2) 1 0 S) = ⟨0, sect 2, W2 p q r⟩ :=
  get_eq (ak_ask2 ..) (found_hit (x := (0, 5)) (l := [(1, 5)]) (by decide) (ak_rE0 ..) ((congrArg sumB (show (W2 p q r).a.readB 0 5 = sect 2 from ak_rB0 ..)).trans hS) (ak_rd0 ..))
theorem w2_spoil (p q r : Nat) : (W2 p q r).a.spoil 0 5 0 1 = (W3 p q r).a := by kernel_rfl
theorem w2_spoilE (p q r : Nat) : (W2 p q r).a.spoilE 0 5 0 = 0 := by kernel_rfl
theorem w3_get (p q r : Nat) (ao : Option Addr) (c : Nat) {S : List UInt8} (hS : sumB (sect 2) = S) : (W3 p q r).get (PVof ao 2 c (onDevs 2) 1 0 S) = ⟨0, sect 2, W4 p q r⟩ := by
  have h1 : found S (-1) (W3 p q r) (onDevs 2) [] = ⟨0, sect 2, [(0, 5)], ⟨(W3 p q r).a, (W3 p q r).e.modify 0 fSm⟩⟩ := by
    refine (found_miss (x := (0, 5)) (l := [(1, 5)]) (by decide) (ak_rE0 ..) (by rw [show (W3 p q r).a.readB 0 5 = spo (sect 2) 0 1 from ak_rB0 .., ← hS]; exact spo_bad) (ak_rd0 ..)).trans ?_
    exact found_hit (x := (1, 5)) (l := []) (by decide) (ak_rE1 ..) ((congrArg sumB (show (W3 p q r).a.readB 1 5 = sect 2 from ak_rB1 ..)).trans hS) (ak_rd1 ..)
  refine (get_eq (ak_ask2 ..) h1).trans ?_
  kernel_rfl
theorem w4_rE (p q r : Nat) : (W4 p q r).a.readE 0 5 = 0 := ak_rE0 ..
theorem w4_rB (p q r : Nat) : (W4 p q r).a.readB 0 5 = sect 2 := by kernel_rfl
theorem w4_rd (p q r : Nat) : (W4 p q r).a.read 0 5 = (W4 p q r).a := ak_rd0 ..
theorem w4_e0 (p q r : Nat) : (W4 p q r).errs 0 = ⟨0, 1, 1⟩ := by kernel_rfl
theorem w4_e1 (p q r : Nat) : (W4 p q r).errs 1 = ⟨0, 0, 0⟩ := by kernel_rfl
end Go.Proofs.YtmdfbdfijnmhkaaGreat
