import Derived.Test.YthjafocnfpphlaaT8
import Derived.Test.YthjafocnfpphlaaT4
import Derived.Test.YthjafocnfpphlaaT10
import Derived.Test.YthjafocnfpphlaaPtrR
import Derived.Test.YthjafocnfpphlaaSepR
import Derived.Deep.RegionHeld3
import Derived.Deep.DrawnRows
namespace Go.Proofs.Ythjafocnfpphlaa
open Go.RowKit Hp
attribute [local go_sem ↓] Go.wp_at_zero Go.wp_at_succ
attribute [local irreducible] Go.Calls
set_option maxHeartbeats 1000000
theorem cnum_k (g : Nat) (ao : Option Addr) (n c k : Nat) (s : Int) (hs : s = (k : Int)) (bs : List UInt8) (w : World) (hg : w.heap[g]? = some (.cells #[.slice ao n c] 77 (0, 0))) (hA : Rd w (.slice ao n c) 1 n (bytesV bs)) (hn : bs.length = n) (hk : 1 ≤ k ∧ k ≤ 4 ∧ k ≤ n)
    (hne : ∀ b off, ao = some ⟨b, off, none⟩ → b ≠ g) :
    Calls Try.prog 63 #[.pointer (some ⟨g, 0, none⟩), .int .i64 s] w fun e w' => ∃ ao' c', e = .returned (.int .i64 (beN (bs.take k))) ∧ St w [g] w' [.blk g 77 [.slice ao' (n - k) c']] ∧
      (∀ wx, Rd wx (.slice ao n c) 1 n (bytesV bs) → Rd wx (.slice ao' (n - k) c') 1 (n - k) (bytesV (bs.drop k))) ∧ (∀ b off, ao' = some ⟨b, off, none⟩ → b ≠ g) := by
  subst hs
  exact cnum_any g ao n c k bs w hg hA hn hk hne
theorem read_short (ao : Option Addr) (n c : Nat) (bs : List UInt8) (w : World) (hA : Rd w (.slice ao n c) 1 n (bytesV bs)) (hn : bs.length = n) (h47 : n ≠ 47) :
    Calls Try.prog 51 #[.slice ao n c] w (readEnd bs w 65 42) := by
  have hbd1 := hA.bd.1
  have hbd2 := hA.bd.2.1
  have hst := St.refl w
  have Hn := hid hn; clear hn
  have hne : Hid (bs.length ≠ 47) := by rw [← Hn.out] at h47; exact hid h47
  go_enter Try.func51, Try.ntmps51
  go_wp2_with (first | go_big_skip | go_big_guard | (refine wl_alloc hst rfl rfl ?_; intro g0 w1 hst1; clear hst))
  all_goals
    have hn' := Hn.out
    exact ⟨rfl, readEnd_no (by simp [rOK, hne.out]) (by simp [rErr, hne.out]) (by unfold rAt; rw [if_neg hne.out]; split <;> omega) hst1.nil⟩
theorem read_full (ao : Option Addr) (n c : Nat) (bs : List UInt8) (w : World) (hA : Rd w (.slice ao n c) 1 n (bytesV bs)) (hn : bs.length = n) (h47 : n = 47) :
    Calls Try.prog 51 #[.slice ao n c] w (readEnd bs w 65 42) := by
  have hbd1 := hA.bd.1
  have hbd2 := hA.bd.2.1
  have hst := St.refl w
  obtain ⟨b0, off0, rfl, hr0⟩ := hA.at (k := 0) (by omega)
  have hb0 : b0 < w.heap.size := World.block_lt_of_cell? w _ (byte_cell hr0 (k := 0) (by omega))
  have Hn := hid hn; clear hn
  subst h47
  go_enter Try.func51, Try.ntmps51
  go_wp2_with (first | go_big_skip | go_big_guard | (refine wl_alloc hst rfl rfl ?_; intro g0 w1 hst1; clear hst) | (refine wl_boxA hst1 rfl rfl rfl ?_; intro gc w2 hst2; clear hst1) | (refine wl_alloc hst2 rfl rfl ?_; intro gp w3 hst3; clear hst2))
  have hgc : ∀ b off, some (⟨b0, off0, none⟩ : Addr) = some ⟨b, off, none⟩ → b ≠ gc := by
    intro b off h
    cases h
    have : gc ≥ w.heap.size := by rcases hst3.own _ (.tail _ (.head _)) gc rfl with h | h; exact h; cases h
    omega
  go_at_call 63
  refine (cnum_k gc _ 47 c 1 _ rfl bs _ (hst3.all _ (.tail _ (.head _))) (Rd.old hst3 hA) Hn.out (by omega) hgc).mono ?_
  rintro _ _ ⟨ao1, c1, rfl, h1, h2, h3⟩
  have hst4 := St.call1 [_] hst3 h1
  clear h1 hst3 hgc
  have hR := h2 w hA
  clear h2
  go_wp2_with (first | go_big_skip | go_big_guard | fail)
  have hst5 := hst4.perm (L' := [.blk gc 77 [.slice ao1 46 c1], .blk gp 29 (ptrCells (.slice none 0 0) 0 0 nones), .blk g0 29 (ptrCells (.slice none 0 0) 0 0 nones)]) (List.Perm.swap _ _ _)
  clear hst4
  obtain ⟨many, hmany⟩ : ∃ q, q = beN (bs.take 1) := ⟨_, rfl⟩
  have hml : many < 256 := by
    have := beN_lt (bs.take 1)
    rw [hmany]
    refine Nat.lt_of_lt_of_le this ?_
    have h1 : (bs.take 1).length ≤ 1 := by rw [List.length_take]; omega
    calc 256 ^ (bs.take 1).length ≤ 256 ^ 1 := Nat.pow_le_pow_right (by decide) h1
      _ = 256 := by decide
  rw [← hmany]
  have Hmany := hid hmany
  clear hmany
  go_loopw [24] (fun i wr => ∃ k : Nat, k ≤ 3 ∧ i = .int .i64 k ∧ ∃ ao2 c2 v3 m3, St w [] wr [.row v3 42 2 m3 (addrsV (rAddrs bs k)), .blk gc 77 [.slice ao2 (46 - 3 * k) c2], .blk gp 29 (ptrCells v3 0 0 nones), .blk g0 29 (ptrCells (.slice none 0 0) 0 0 nones)] ∧
      Rd w (.slice ao2 (46 - 3 * k) c2) 1 (46 - 3 * k) (bytesV (bs.drop (1 + 3 * k))) ∧ (∀ b off, ao2 = some ⟨b, off, none⟩ → b ≠ gc) ∧ (rAddrs bs k).length = m3) (fun i _ => 3 - (intOf i).toNat)
  case atStart => exact ⟨0, by omega, rfl, ao1, c1, _, 0, St.nilRow _ _ hst5, hR, h3, rfl⟩
  case round =>
    obtain ⟨k, hk, rfl, ao2, c2, v3, m3, hst6, hR2, hgc2, hl3⟩ := hrel
    clear hst5 hR h3
    have hm3 : m3 ≤ k := by rw [← hl3]; exact rAddrs_le bs k
    have Hl3 := hid hl3
    clear hl3
    have hlen : (bs.drop (1 + 3 * k)).length = 46 - 3 * k := by rw [List.length_drop, Hn.out]; omega
    have Hlen := hid hlen
    clear hlen
    by_cases hk3 : k < 3
    · obtain ⟨n2, hn2⟩ : ∃ q, q = 46 - 3 * k := ⟨_, rfl⟩
      rw [← hn2] at hst6 hR2 Hlen
      go_wp2_with (first | go_big_skip | go_big_guard | fail)
      go_at_call 63
      refine (cnum_k gc _ _ c2 1 _ rfl _ _ (hst6.all _ (.tail _ (.head _))) (Rd.old hst6 hR2) Hlen.out (by omega) hgc2).mono ?_
      rintro _ _ ⟨ao4, c4, rfl, h1, h2, hgc4⟩
      have hst7 := St.call1 [_] hst6 h1
      have hR4 := h2 w hR2
      clear h1 h2 hst6 hR2 hgc2
      go_wp2_with (first | go_big_skip | go_big_guard | fail)
      go_at_call 63
      refine (cnum_k gc _ _ c4 2 _ rfl _ _ (hst7.all _ (.tail _ (.head _))) (Rd.old hst7 hR4) (by rw [List.length_drop, Hlen.out]) (by omega) hgc4).mono ?_
      rintro _ _ ⟨ao5, c5, rfl, h1, h2, hgc5⟩
      have hst8 := St.call1 [_] hst7 h1
      have hR5 := h2 w hR4
      clear h1 h2 hst7 hR4 hgc4
      obtain ⟨x, hx⟩ : ∃ q, q = rA bs k := ⟨_, rfl⟩
      have hx1 : ((beN ((bs.drop (1 + 3 * k)).take 1) : Nat) : Int) = x.1 := by rw [hx]; rfl
      have hx2 : ((beN (((bs.drop (1 + 3 * k)).drop 1).take 2) : Nat) : Int) = x.2 := by rw [hx, List.drop_drop, show 1 + 3 * k + 1 = 2 + 3 * k by omega]; rfl
      rw [hx1, hx2]
      have Hx := hid hx
      clear hx hx1 hx2
      have hR6 : Rd w (.slice ao5 (n2 - 1 - 2) c5) 1 (n2 - 1 - 2) (bytesV (bs.drop (1 + 3 * (k + 1)))) := by
        have e : ((bs.drop (1 + 3 * k)).drop 1).drop 2 = bs.drop (1 + 3 * (k + 1)) := by simp only [List.drop_drop]; congr 1
        rw [← e]; exact hR5
      clear hR5
      by_cases hkm : k < many
      · have he : addrsV (rAddrs bs k) ++ [.int .i64 x.1, .int .i64 x.2] = addrsV (rAddrs bs (k + 1)) := by
          have : rAddrs bs (k + 1) = rAddrs bs k ++ [x] := by
            rw [rAddrs, if_pos (by rw [← Hmany.out]; exact hkm), Hx.out]
          rw [this, addrsV_append]; rfl
        have hl : (rAddrs bs (k + 1)).length = m3 + 1 := by
          rw [rAddrs, if_pos (by rw [← Hmany.out]; exact hkm), List.length_append, Hl3.out]; rfl
        have He := hid he
        have Hl := hid hl
        clear he hl
        go_wp2_with (first | go_big_skip | go_big_guard | (refine wl_alloc hst8 rfl rfl ?_; intro ga w9 hst9; clear hst8) | (refine wl_store [] hst9 rfl rfl rfl (v := .agg (List.toArray _)) rfl rfl rfl ?_ ?_; (exact Nat.le_refl _); intro w10 hst10; clear hst9; (simp [putAt] at hst10)) | (refine wl_loadE rfl rfl rfl ?_; first | refine ⟨_, Loads.at [_, _, _] hst10 rfl, ?_⟩ | refine ⟨_, Loads.atA ([.int _ _, .int _ _]) [] hst10 (rfl) (rfl), ?_⟩) | (apply wl_bsX ([.agg #[_, _]]) ([.int _ _, .int _ _]) hst10; rfl; rfl; exact rfl; exact rfl; infer_instance; infer_instance; rfl; rfl; rfl; intro gb w11 hst11; clear hst10) | ((apply wl_appX [_, _] hst11; rfl; rfl; exact rfl; exact rfl; infer_instance; infer_instance; infer_instance; exact (Rd.blk0 hst11 rfl (by decide)); exact rfl; ((unfold maxLen; omega)); intro v12 w12 hst12 _; clear hst11); obtain ⟨ao6, c6, rfl⟩ := St.rowSliceAt [_, _] hst12) | (refine wl_store [_, _, _, _] hst12 rfl rfl rfl (v := .slice _ _ _) rfl rfl rfl ?_ ?_; (exact (by decide : 0 + 1 ≤ 35)); intro w13 hst13; clear hst12; (skip)))
        have hst14 : St w [] w13 [.row (.slice ao6 (m3 + 1) c6) 42 2 (m3 + 1) (addrsV (rAddrs bs k) ++ [.int .i64 x.1, .int .i64 x.2]), .blk gc 77 [.slice ao5 (n2 - 1 - 2) c5], .blk gp 29 (ptrCells (.slice ao6 (m3 + 1) c6) 0 0 nones), .blk g0 29 (ptrCells (.slice none 0 0) 0 0 nones)] :=
          St.sub (L := [_, _, _, _, _, _]) hst13 (.cons _ (.cons _ (List.Sublist.refl _)))
        rw [He.out] at hst14
        go_roundw
        case rel =>
          refine ⟨k + 1, by omega, by go_num, ao5, c5, .slice ao6 (m3 + 1) c6, m3 + 1, ?_⟩
          rw [show 46 - 3 * (k + 1) = n2 - 1 - 2 by omega]
          exact ⟨hst14, hR6, hgc5, Hl.out⟩
        case measure => simp [intOf]; omega
      · have he : rAddrs bs (k + 1) = rAddrs bs k := by
          rw [rAddrs, if_neg (by rw [← Hmany.out]; exact hkm), List.append_nil]
        have He := hid he
        clear he
        go_wp2_with (first | go_big_skip | go_big_guard | (refine wl_alloc hst8 rfl rfl ?_; intro ga w9 hst9; clear hst8) | (refine wl_store [] hst9 rfl rfl rfl (v := .agg (List.toArray _)) rfl rfl rfl ?_ ?_; (exact Nat.le_refl _); intro w10 hst10; clear hst9; (simp [putAt] at hst10)))
        have hst14 := hst10.drop (L1 := [])
        go_roundw
        case rel =>
          refine ⟨k + 1, by omega, by go_num, ao5, c5, v3, m3, ?_⟩
          rw [show 46 - 3 * (k + 1) = n2 - 1 - 2 by omega, He.out]
          exact ⟨hst14, hR6, hgc5, Hl3.out⟩
        case measure => simp [intOf]; omega
    · have hk4 : k = 3 := by omega
      obtain ⟨n2, hn2⟩ : ∃ q, q = 46 - 3 * k := ⟨_, rfl⟩
      rw [← hn2] at hst6 hR2 Hlen
      go_wp2_with (first | go_big_skip | go_big_guard | fail)
      go_at_call 63
      refine (cnum_k gc _ _ c2 4 _ rfl _ _ (hst6.all _ (.tail _ (.head _))) (Rd.old hst6 hR2) Hlen.out (by omega) hgc2).mono ?_
      rintro _ _ ⟨ao4, c4, rfl, h1, h2, hgc4⟩
      have hst7 := St.call1 [_] hst6 h1
      have hR4 := h2 w hR2
      clear h1 h2 hst6 hR2 hgc2
      have hb1 : beN ((bs.drop (1 + 3 * k)).take 4) = rBirth bs := by rw [hk4]; rfl
      rw [hb1]
      go_wp2_with (first | go_big_skip | go_big_guard | (refine wl_store [_, _] hst7 rfl rfl rfl (v := .int _ _) rfl rfl rfl ?_ ?_; (exact (by decide : 1 + 1 ≤ 35)); intro w8 hst8; clear hst7; (skip)))
      go_at_call 63
      refine (cnum_k gc _ _ c4 1 _ rfl _ _ (hst8.all _ (.tail _ (.head _))) (Rd.old hst8 hR4) (by rw [List.length_drop, Hlen.out]) (by omega) hgc4).mono ?_
      rintro _ _ ⟨ao5, c5, rfl, h1, h2, hgc5⟩
      have hst9 := St.call1 [_] hst8 h1
      have hR5 := h2 w hR4
      clear h1 h2 hst8 hR4 hgc4
      have hb2 : beN (((bs.drop (1 + 3 * k)).drop 4).take 1) = rLevel bs := by rw [hk4, List.drop_drop]; rfl
      rw [hb2]
      go_wp2_with (first | go_big_skip | go_big_guard | (refine wl_store [_, _] hst9 rfl rfl rfl (v := .int _ _) rfl rfl rfl ?_ ?_; (exact (by decide : 2 + 1 ≤ 35)); intro w10 hst10; clear hst9; (skip)))
      have hb3 : ((bs.drop (1 + 3 * k)).drop 4).drop 1 = rSum bs := by rw [hk4, List.drop_drop, List.drop_drop]; rfl
      rw [hb3] at hR5
      have hn32 : n2 - 4 - 1 = 32 := by omega
      rw [hn32] at hR5 hst10
      have hst11 : St w [] w10 [.blk gc 77 [.slice ao5 32 c5], .blk gp 29 (ptrCells v3 (rBirth bs) (rLevel bs) nones), .row v3 42 2 m3 (addrsV (rAddrs bs k)), .blk g0 29 (ptrCells (.slice none 0 0) 0 0 nones)] :=
        St.perm (L := [.row v3 42 2 m3 (addrsV (rAddrs bs k)), .blk gc 77 [.slice ao5 32 c5], .blk gp 29 (ptrCells v3 (rBirth bs) (rLevel bs) nones), .blk g0 29 (ptrCells (.slice none 0 0) 0 0 nones)]) hst10
          ((List.Perm.swap _ _ _).trans (List.Perm.cons _ (List.Perm.swap _ _ _)))
      clear hst10
      have hS : L32 (rSum bs) := by unfold L32 rSum; rw [List.length_drop, Hn.out]
      rw [hk4] at hst11 Hl3
      obtain ⟨ao3, c3, rfl⟩ := St.rowSliceAt [_, _] hst11
      have hst12 := hst11.drew
      have hc0 := hst12.cell (g := gc) (off := 0) (.head _) rfl
      clear hst11
      go_region_held3 (fun w' => w'.cell? ⟨gc, 0, none⟩ = some (.slice ao5 32 c5))
        (first | go_keep | exact hst13.cell (g := gc) (.head _) rfl)
        (first | (rw [if_pos (by rfl)]; apply ow_copy [_] hst12; rfl; exact rfl; exact rfl; infer_instance; infer_instance; exact Rd.old hst12 hR5; exact ones_bytesV _; exact (by decide : 32 ≤ 32); exact (by decide : 3 + 32 ≤ 35); intro w13 hst13))
      rw [ptr_put hS] at hst13
      clear hst12 hR5 hgc5
      by_cases hc : checkB (rAddrs bs 3) (rBirth bs) (rLevel bs) (rSum bs) = true
      · by_cases hq : (bytesP (rAddrs bs 3) (rBirth bs) (rLevel bs) (rSum bs) == bs) = true
        · go_wp2_with (first | go_big_skip | go_big_guard | (refine wl_loadE rfl rfl rfl ?_; first | refine ⟨_, Loads.atA (ptrCells _ _ _ _) [_] hst13 (ptr_len hS _ _ _) (ptr_all _ _ _ _), ?_⟩ | refine ⟨_, Loads.atA (ptrCells _ _ _ _) [_, _] hst14 (ptr_len hS _ _ _) (ptr_all _ _ _ _), ?_⟩) | (go_at_call 19; refine (bytes_ok ao3 m3 c3 (rAddrs bs 3) _ _ _ _ hS (Rd.row hst13 (.tail _ (.tail _ (.head _)))) Hl3.out hc).mono ?_; rintro _ _ ⟨u, rfl, h14⟩; obtain ⟨ao7, c7, rfl⟩ := St.rowSliceAt [] h14; have hst14 := St.call hst13 h14; clear h14 hst13) | (go_at_call 64; refine (eqBytes_any ao7 _ 47 c7 47 c (bytesP (rAddrs bs 3) (rBirth bs) (rLevel bs) (rSum bs)) bs _ (Rd.row hst14 (.head _)) (length_bytesP _ _ _ hS) (Rd.old hst14 hA) Hn.out).mono ?_; rw [hq]; rintro _ _ ⟨rfl, h15⟩; replace hst14 := St.call0 hst14 h15; clear h15) | (refine wl_storeA [_, _, _, _] hst14 rfl rfl rfl rfl (ptr_len hS _ _ _) (ptr_ones _ _ _ _ _ _) (rfl) ?_; intro w15 hst15; clear hst14))
          have hl := Loads.atA (P := Try.prog) (T := 29) (ptrCells (.slice ao3 m3 c3) (rBirth bs) (rLevel bs) (rSum bs)) [_, _, _, _] hst15 (ptr_len hS _ _ _) (ptr_all _ _ _ _)
          exact bodyPost_ret (results_cellL rfl rfl hl) rfl (readEnd_ok (by simp [rOK, hc, hq, Hn.out]) (hst15.sub (L' := [.row (.slice ao3 m3 c3) 42 2 m3 (addrsV (rAddrs bs 3))]) (.cons _ (.cons _ (.cons _ (List.Sublist.cons_cons _ (List.nil_sublist _)))))) Hl3.out)
        · go_wp2_with (first | go_big_skip | go_big_guard | (refine wl_loadE rfl rfl rfl ?_; first | refine ⟨_, Loads.atA (ptrCells _ _ _ _) [_] hst13 (ptr_len hS _ _ _) (ptr_all _ _ _ _), ?_⟩) | (go_at_call 19; refine (bytes_ok ao3 m3 c3 (rAddrs bs 3) _ _ _ _ hS (Rd.row hst13 (.tail _ (.tail _ (.head _)))) Hl3.out hc).mono ?_; rintro _ _ ⟨u, rfl, h14⟩; obtain ⟨ao7, c7, rfl⟩ := St.rowSliceAt [] h14; have hst14 := St.call hst13 h14; clear h14 hst13) | (go_at_call 64; refine (eqBytes_any ao7 _ 47 c7 47 c (bytesP (rAddrs bs 3) (rBirth bs) (rLevel bs) (rSum bs)) bs _ (Rd.row hst14 (.head _)) (length_bytesP _ _ _ hS) (Rd.old hst14 hA) Hn.out).mono ?_; rw [Bool.eq_false_iff.2 hq]; rintro _ _ ⟨rfl, h15⟩; replace hst14 := St.call0 hst14 h15; clear h15))
          exact ⟨rfl, readEnd_no (by simp [rOK, Bool.eq_false_iff.2 hq]) (by simp [rErr, Hn.out]) (by simp [rAt, Hn.out]) hst14.nil⟩
      · go_wp2_with (first | go_big_skip | go_big_guard | (refine wl_loadE rfl rfl rfl ?_; first | refine ⟨_, Loads.atA (ptrCells _ _ _ _) [_] hst13 (ptr_len hS _ _ _) (ptr_all _ _ _ _), ?_⟩) | (go_at_call 19; refine (bytes_no ao3 m3 c3 (rAddrs bs 3) _ _ _ _ hS (Rd.row hst13 (.tail _ (.tail _ (.head _)))) Hl3.out (Bool.eq_false_iff.2 hc)).mono ?_; rintro _ _ ⟨rfl, h14⟩; replace hst13 := St.call0 hst13 h14; clear h14))
        exact ⟨rfl, readEnd_no (by simp [rOK, Bool.eq_false_iff.2 hc]) (by simp [rErr, Hn.out]) (by simp [rAt, Hn.out]) hst13.nil⟩
theorem read_any (ao : Option Addr) (n c : Nat) (bs : List UInt8) (w : World) (hA : Rd w (.slice ao n c) 1 n (bytesV bs)) (hn : bs.length = n) :
    Calls Try.prog 51 #[.slice ao n c] w (readEnd bs w 65 42) := by
  by_cases h47 : n = 47
  · exact read_full ao n c bs w hA hn h47
  · exact read_short ao n c bs w hA hn h47
end Go.Proofs.Ythjafocnfpphlaa
