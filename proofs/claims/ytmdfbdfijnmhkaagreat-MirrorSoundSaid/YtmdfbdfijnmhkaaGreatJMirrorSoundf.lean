import Derived.Test.YtmdfbdfijnmhkaaGreatJMirrorSounde
import Derived.Test.YtmdfbdfijnmhkaaGreatJMirrorSoundc
import Derived.Test.YtmdfbdfijnmhkaaGreatJMirrorSounda
namespace Go.Proofs.YtmdfbdfijnmhkaaGreat
set_option linter.unusedVariables false
set_option linter.unusedSimpArgs false
open Go.RowKit Hp
attribute [local irreducible] Go.Calls Go.wpList
set_option maxRecDepth 100000
set_option maxHeartbeats 4000000
theorem wrote_cons {b : List UInt8} {a : AR} {cnt k : Nat} {l : List (Int × Int)} (hk : k < l.length) : wrote16 b a cnt (l.drop k) = (if a.writeE (l.getD k (0, 0)).1 (l.getD k (0, 0)).2 b = 0 then wrote16 b (a.write (l.getD k (0, 0)).1 (l.getD k (0, 0)).2 b) (cnt + 1) (l.drop (k + 1))
    else if a.writeE (l.getD k (0, 0)).1 (l.getD k (0, 0)).2 b = 10 then ⟨10, 0, a.write (l.getD k (0, 0)).1 (l.getD k (0, 0)).2 b⟩
    else wrote16 b (a.write (l.getD k (0, 0)).1 (l.getD k (0, 0)).2 b) cnt (l.drop (k + 1))) := by
  rw [drop_getD hk]
  conv => lhs; unfold wrote16
def MV.withA (m : MV) (a : AR) : MV := { m with a := a }
section
attribute [local go_sem ↓] loadedIm3 loadedAm3
theorem put_len {w0 w : World} {M : List Nat} {R : List HA} {gm ga : Nat} {x : GA} {m : MV} {N : Nat} (hS : St w0 M w (mP gm ga x m ++ R)) (hg : MGood m N) (ao : Option Addr) (n c : Nat) (l : List (Int × Int)) (hA : ∀ w, St w0 M w R → Rd w (.slice ao n c) 2 n (addrsV l)) (hn : l.length = n) (bo : Option Addr) (bn bc : Nat) (bs : List UInt8) (hb : GB w0 M R (.slice bo bn bc) bn bs) (hN : N ≤ 800000) (h1 : bs.length ≠ 256) :
    Calls Tryz.prog 24 #[PM gm, .slice ao n c, .slice bo bn bc] w fun e w' => ∃ x', e = .returned (.tuple #[.int .i64 (m.put l bs).n, .int .i64 (m.put l bs).er]) ∧ St w0 M w' (mP gm ga x' (m.withA (m.put l bs).a) ++ R) := by
  have ho : m.putOk l bs = false := by unfold MV.putOk; rw [decide_eq_false h1]; rfl
  have hr : m.put l bs = ⟨2, 0, m.a⟩ := by unfold MV.put; rw [ho]; rfl
  rw [hr]
  have hst := hS
  have HG := hid hg
  have HN := hid hn
  have HA := hid hA
  have hbl := hb.len
  have d1 : ((bn : Int) != 256) = true := by simp; omega
  clear hS hg hn hA ho hr hbl hb h1
  unfold PM
  go_enter Tryz.func24, Tryz.ntmps24
  go_wp2_with (first | go_big_skip | go_big_guard | (go_at_call 62; refine (mirNone_any (St.mat hst HG.out.sc.ok.d0)).mono ?_; rintro _ w2 ⟨rfl, h4⟩; replace hst := St.call0 hst h4; clear h4))
  go_ret2
  exact ⟨x, rfl, hst⟩
theorem put_few {w0 w : World} {M : List Nat} {R : List HA} {gm ga : Nat} {x : GA} {m : MV} {N : Nat} (hS : St w0 M w (mP gm ga x m ++ R)) (hg : MGood m N) (ao : Option Addr) (n c : Nat) (l : List (Int × Int)) (hA : ∀ w, St w0 M w R → Rd w (.slice ao n c) 2 n (addrsV l)) (hn : l.length = n) (bo : Option Addr) (bn bc : Nat) (bs : List UInt8) (hb : GB w0 M R (.slice bo bn bc) bn bs) (hN : N ≤ 800000) (h1 : bs.length = 256) (h2 : n < 1) :
    Calls Tryz.prog 24 #[PM gm, .slice ao n c, .slice bo bn bc] w fun e w' => ∃ x', e = .returned (.tuple #[.int .i64 (m.put l bs).n, .int .i64 (m.put l bs).er]) ∧ St w0 M w' (mP gm ga x' (m.withA (m.put l bs).a) ++ R) := by
  have ho : m.putOk l bs = false := by unfold MV.putOk; rw [decide_eq_false (p := 1 ≤ l.length ∧ l.length ≤ 3) (by omega), Bool.and_false]; rfl
  have hr : m.put l bs = ⟨2, 0, m.a⟩ := by unfold MV.put; rw [ho]; rfl
  rw [hr]
  have hst := hS
  have HG := hid hg
  have HN := hid hn
  have HA := hid hA
  have hbl := hb.len
  obtain rfl : bn = 256 := by omega
  have d2 : decide ((n : Int) < 1) = true := decide_eq_true (by omega)
  clear hS hg hn hA ho hr hbl hb h1 h2
  unfold PM
  go_enter Tryz.func24, Tryz.ntmps24
  go_wp2_with (first | go_big_skip | go_big_guard | (go_at_call 62; refine (mirNone_any (St.mat hst HG.out.sc.ok.d0)).mono ?_; rintro _ w2 ⟨rfl, h4⟩; replace hst := St.call0 hst h4; clear h4))
  go_ret2
  exact ⟨x, rfl, hst⟩
theorem put_many {w0 w : World} {M : List Nat} {R : List HA} {gm ga : Nat} {x : GA} {m : MV} {N : Nat} (hS : St w0 M w (mP gm ga x m ++ R)) (hg : MGood m N) (ao : Option Addr) (n c : Nat) (l : List (Int × Int)) (hA : ∀ w, St w0 M w R → Rd w (.slice ao n c) 2 n (addrsV l)) (hn : l.length = n) (bo : Option Addr) (bn bc : Nat) (bs : List UInt8) (hb : GB w0 M R (.slice bo bn bc) bn bs) (hN : N ≤ 800000) (h1 : bs.length = 256) (h2 : ¬ n < 1) (h3 : 3 < n) :
    Calls Tryz.prog 24 #[PM gm, .slice ao n c, .slice bo bn bc] w fun e w' => ∃ x', e = .returned (.tuple #[.int .i64 (m.put l bs).n, .int .i64 (m.put l bs).er]) ∧ St w0 M w' (mP gm ga x' (m.withA (m.put l bs).a) ++ R) := by
  have ho : m.putOk l bs = false := by unfold MV.putOk; rw [decide_eq_false (p := 1 ≤ l.length ∧ l.length ≤ 3) (by omega), Bool.and_false]; rfl
  have hr : m.put l bs = ⟨2, 0, m.a⟩ := by unfold MV.put; rw [ho]; rfl
  rw [hr]
  have hst := hS
  have HG := hid hg
  have HN := hid hn
  have HA := hid hA
  have hbl := hb.len
  obtain rfl : bn = 256 := by omega
  have d2 : decide ((n : Int) < 1) = false := decide_eq_false (by omega)
  have d3 : decide ((n : Int) > 3) = true := decide_eq_true (by omega)
  clear hS hg hn hA ho hr hbl hb h1 h2 h3
  unfold PM
  go_enter Tryz.func24, Tryz.ntmps24
  go_wp2_with (first | go_big_skip | go_big_guard | (go_at_call 62; refine (mirNone_any (St.mat hst HG.out.sc.ok.d0)).mono ?_; rintro _ w2 ⟨rfl, h4⟩; replace hst := St.call0 hst h4; clear h4))
  go_ret2
  exact ⟨x, rfl, hst⟩
theorem put_off {w0 w : World} {M : List Nat} {R : List HA} {gm ga : Nat} {x : GA} {m : MV} {N : Nat} (hS : St w0 M w (mP gm ga x m ++ R)) (hg : MGood m N) (ao : Option Addr) (n c : Nat) (l : List (Int × Int)) (hA : ∀ w, St w0 M w R → Rd w (.slice ao n c) 2 n (addrsV l)) (hn : l.length = n) (bo : Option Addr) (bn bc : Nat) (bs : List UInt8) (hb : GB w0 M R (.slice bo bn bc) bn bs) (hN : N ≤ 800000) (h1 : bs.length = 256) (h2 : ¬ n < 1) (h3 : ¬ 3 < n) (h4 : m.lies l = false) :
    Calls Tryz.prog 24 #[PM gm, .slice ao n c, .slice bo bn bc] w fun e w' => ∃ x', e = .returned (.tuple #[.int .i64 (m.put l bs).n, .int .i64 (m.put l bs).er]) ∧ St w0 M w' (mP gm ga x' (m.withA (m.put l bs).a) ++ R) := by
  have ho : m.putOk l bs = false := by unfold MV.putOk; rw [h4, Bool.false_and, Bool.and_false]
  have hr : m.put l bs = ⟨2, 0, m.a⟩ := by unfold MV.put; rw [ho]; rfl
  rw [hr]
  have hst := hS
  have HG := hid hg
  have HN := hid hn
  have HA := hid hA
  have hbl := hb.len
  obtain rfl : bn = 256 := by omega
  have d2 : decide ((n : Int) < 1) = false := decide_eq_false (by omega)
  have d3 : decide ((n : Int) > 3) = false := decide_eq_false (by omega)
  have HLI := hid h4
  clear hS hg hn hA ho hr hbl hb h1 h2 h3 h4
  unfold PM
  go_enter Tryz.func24, Tryz.ntmps24
  go_wp2_with (first | go_big_skip | go_big_guard | (go_at_call 62; refine (mirNone_any (St.mat hst HG.out.sc.ok.d0)).mono ?_; rintro _ w2 ⟨rfl, h4⟩; replace hst := St.call0 hst h4; clear h4) | (go_at_call 63; have HD := mirSectors_any (St.mat hst HG.out.sc.ok.d0) ao n c l (HA.out _ (St.sub hst (List.sublist_append_right _ _))) HN.out; rw [HLI.out] at HD; refine HD.mono ?_; clear HD; rintro _ w3 ⟨rfl, h4⟩; replace hst := St.call0 hst h4; clear h4))
  go_ret2
  exact ⟨x, rfl, hst⟩
theorem put_near {w0 w : World} {M : List Nat} {R : List HA} {gm ga : Nat} {x : GA} {m : MV} {N : Nat} (hS : St w0 M w (mP gm ga x m ++ R)) (hg : MGood m N) (ao : Option Addr) (n c : Nat) (l : List (Int × Int)) (hA : ∀ w, St w0 M w R → Rd w (.slice ao n c) 2 n (addrsV l)) (hn : l.length = n) (bo : Option Addr) (bn bc : Nat) (bs : List UInt8) (hb : GB w0 M R (.slice bo bn bc) bn bs) (hN : N ≤ 800000) (h1 : bs.length = 256) (h2 : ¬ n < 1) (h3 : ¬ 3 < n) (h4 : m.lies l = true) (h5 : apartB l = false) :
    Calls Tryz.prog 24 #[PM gm, .slice ao n c, .slice bo bn bc] w fun e w' => ∃ x', e = .returned (.tuple #[.int .i64 (m.put l bs).n, .int .i64 (m.put l bs).er]) ∧ St w0 M w' (mP gm ga x' (m.withA (m.put l bs).a) ++ R) := by
  have ho : m.putOk l bs = false := by unfold MV.putOk; rw [h5, Bool.and_false, Bool.and_false]
  have hr : m.put l bs = ⟨2, 0, m.a⟩ := by unfold MV.put; rw [ho]; rfl
  rw [hr]
  have hst := hS
  have HG := hid hg
  have HN := hid hn
  have HA := hid hA
  have hbl := hb.len
  obtain rfl : bn = 256 := by omega
  have d2 : decide ((n : Int) < 1) = false := decide_eq_false (by omega)
  have d3 : decide ((n : Int) > 3) = false := decide_eq_false (by omega)
  have HLI := hid h4
  have HAP := hid h5
  clear hS hg hn hA ho hr hbl hb h1 h2 h3 h4 h5
  unfold PM
  go_enter Tryz.func24, Tryz.ntmps24
  go_wp2_with (first | go_big_skip | go_big_guard | (go_at_call 62; refine (mirNone_any (St.mat hst HG.out.sc.ok.d0)).mono ?_; rintro _ w2 ⟨rfl, h4⟩; replace hst := St.call0 hst h4; clear h4) | (go_at_call 63; have HD := mirSectors_any (St.mat hst HG.out.sc.ok.d0) ao n c l (HA.out _ (St.sub hst (List.sublist_append_right _ _))) HN.out; rw [HLI.out] at HD; refine HD.mono ?_; clear HD; rintro _ w3 ⟨rfl, h4⟩; replace hst := St.call0 hst h4; clear h4) | (go_at_call 64; have HD := apart16_any ao n c l _ (HA.out _ (St.sub hst (List.sublist_append_right _ _))) HN.out; rw [HAP.out] at HD; refine HD.mono ?_; clear HD; rintro _ w3 ⟨rfl, h4⟩; replace hst := St.call0 hst h4; clear h4))
  go_ret2
  exact ⟨x, rfl, hst⟩
theorem put_ok {w0 w : World} {M : List Nat} {R : List HA} {gm ga : Nat} {x : GA} {m : MV} {N : Nat} (hS : St w0 M w (mP gm ga x m ++ R)) (hg : MGood m N) (ao : Option Addr) (n c : Nat) (l : List (Int × Int)) (hA : ∀ w, St w0 M w R → Rd w (.slice ao n c) 2 n (addrsV l)) (hn : l.length = n) (bo : Option Addr) (bn bc : Nat) (bs : List UInt8) (hb : GB w0 M R (.slice bo bn bc) bn bs) (hN : N ≤ 800000) (h1 : bs.length = 256) (h2 : ¬ n < 1) (h3 : ¬ 3 < n) (h4 : m.lies l = true) (h5 : apartB l = true) :
    Calls Tryz.prog 24 #[PM gm, .slice ao n c, .slice bo bn bc] w fun e w' => ∃ x', e = .returned (.tuple #[.int .i64 (m.put l bs).n, .int .i64 (m.put l bs).er]) ∧ St w0 M w' (mP gm ga x' (m.withA (m.put l bs).a) ++ R) := by
  have ho : m.putOk l bs = true := by unfold MV.putOk; rw [h4, h5, decide_eq_true h1, decide_eq_true (p := 1 ≤ l.length ∧ l.length ≤ 3) (by omega)]; rfl
  have hr : m.put l bs = wrote16 bs m.a 0 l := by unfold MV.put; rw [ho]; rfl
  rw [hr]
  have hst := hS
  have HG := hid hg
  have HN := hid hn
  have HA := hid hA
  have hbl := hb.len
  obtain rfl : bn = 256 := by omega
  have d2 : decide ((n : Int) < 1) = false := decide_eq_false (by omega)
  have d3 : decide ((n : Int) > 3) = false := decide_eq_false (by omega)
  have HLI := hid h4
  have HAP := hid h5
  have HB := hid hb
  have HBL := hid h1
  have hn3 : n ≤ 3 := by omega
  clear hS hg hn hA ho hr hbl hb h1 h2 h3 h4 h5
  unfold PM
  go_enter Tryz.func24, Tryz.ntmps24
  go_wp2_with (first | go_big_skip | go_big_guard | (go_at_call 62; refine (mirNone_any (St.mat hst HG.out.sc.ok.d0)).mono ?_; rintro _ w2 ⟨rfl, h4⟩; replace hst := St.call0 hst h4; clear h4) | (go_at_call 63; have HD := mirSectors_any (St.mat hst HG.out.sc.ok.d0) ao n c l (HA.out _ (St.sub hst (List.sublist_append_right _ _))) HN.out; rw [HLI.out] at HD; refine HD.mono ?_; clear HD; rintro _ w3 ⟨rfl, h4⟩; replace hst := St.call0 hst h4; clear h4) | (go_at_call 64; have HD := apart16_any ao n c l _ (HA.out _ (St.sub hst (List.sublist_append_right _ _))) HN.out; rw [HAP.out] at HD; refine HD.mono ?_; clear HD; rintro _ w3 ⟨rfl, h4⟩; replace hst := St.call0 hst h4; clear h4))
  obtain ⟨W, hW⟩ : ∃ W, W = wrote16 bs m.a 0 l := ⟨_, rfl⟩
  have hm0 : m.withA m.a = m := rfl
  go_loopw [8, 41] (fun q i wr => ∃ (k cnt : Nat) (x' : GA) (a' : AR), k ≤ n ∧ cnt ≤ k ∧ i = .int .i64 k ∧ q = .int .i64 cnt ∧ Hid (wrote16 bs m.a 0 l = wrote16 bs a' cnt (l.drop k)) ∧ Hid (MGood (m.withA a') (N + k)) ∧ St w0 M wr (mP gm ga x' (m.withA a') ++ R)) (fun _ i _ => n - (intOf i).toNat)
  case atStart => exact ⟨0, 0, x, m.a, Nat.zero_le _, Nat.zero_le _, rfl, rfl, hid rfl, HG, hst⟩
  case round =>
    clear hst hm0 hW
    obtain ⟨k, cnt, x1, a1, hk, hck, rfl, rfl, HW, HGK, hst⟩ := hrel
    by_cases hlt : k < n
    · have d0 : decide ((k : Int) < (n : Int)) = true := decide_eq_true (by omega)
      obtain ⟨bb, off, rfl, hr⟩ := (HA.out _ (St.sub hst (List.sublist_append_right _ _))).at hlt
      obtain ⟨z, hz⟩ : ∃ z, z = l.getD k (0, 0) := ⟨_, rfl⟩
      have hb := addr_both hr (k := k) (by rw [HN.out]; exact hlt)
      rw [← hz] at hb
      have HAD := hid hb
      have HH := hid (wrote_cons (b := bs) (a := a1) (cnt := cnt) (l := l) (k := k) (by rw [HN.out]; exact hlt))
      rw [← hz] at HH
      obtain ⟨E, hE⟩ : ∃ E, E = a1.writeE z.1 z.2 bs := ⟨_, rfl⟩
      obtain ⟨A', hA'⟩ : ∃ A', A' = a1.write z.1 z.2 bs := ⟨_, rfl⟩
      have HE := hid hE.symm
      have HA' := hid hA'.symm
      rw [← hE, ← hA'] at HH
      have HG2 := hid (show MGood (m.withA A') (N + k + 1) from by rw [hA']; exact HGK.out.arr (HGK.out.sc.ok.write _ _ _) (Stays.write _ _ _ _))
      clear hz hb hr hE hA'
      by_cases e0 : E = 0
      · subst e0
        have HQ := hid (HW.out.trans (HH.out.trans (if_pos rfl)))
        clear HW HH
        go_wp2_with (first | go_big_skip | go_big_guard | (refine wl_index rfl rfl rfl rfl (hlt) ?_) | (refine wl_loadE rfl rfl rfl ?_; refine ⟨_, Loads.range (P := Tryz.prog) (cs := [.int .i64 z.1, .int .i64 z.2]) (TyA.out (n := 2)) HAD.out, ?_⟩) | (refine wl_alloc hst rfl rfl ?_; intro g11 w4 hst4; clear hst) | (refine wl_storeA [] hst4 rfl rfl rfl rfl rfl rfl rfl ?_; intro w5 hst5; clear hst4))
        have hX := hst5.drew
        clear hst5
        refine wp_region_held_drew (S := (fun w' => (loadVarH 3 ⟨g11, 0, none⟩).run Tryz.prog w' = .ok (.int .i64 z.1) w' ∧ (loadVarH 3 ⟨g11, 1, none⟩).run Tryz.prog w' = .ok (.int .i64 z.2) w' ∧ (loadVarH 23 ⟨gm, 0, none⟩).run Tryz.prog w' = .ok (.pointer (some ⟨ga, 0, none⟩)) w')) (by kernel_rfl) (by exact ⟨Loads.at (P := Tryz.prog) [] hX rfl, Loads.at (P := Tryz.prog) [] hX rfl, Loads.at (P := Tryz.prog) [_] hX rfl⟩) (fun hHeld => ?_)
        refine wpAnyH_take (i := 0) (oi := ⟨some 45, _, _, _, _, _⟩) (v := ?_) rfl (by kernel_rfl) (by kernel_rfl) (by kernel_rfl) (fun _ _ _ h => h) (Or.inl ⟨by rfl, ?_⟩) (by assumption) ?_
        rotate_left
        · intro w hSw; (try dsimp only at hSw); go_simp; try with_reducible rfl
        (try simp only [Act.put, List.setIfInBounds_toArray, List.set_cons_zero, List.set_cons_succ])
        refine wpAnyH_take (i := 4) (oi := ⟨some 49, _, _, _, _, _⟩) (v := ?_) rfl (by kernel_rfl) (by kernel_rfl) (by kernel_rfl) (fun _ _ _ h => h) (Or.inl ⟨by rfl, ?_⟩) (by assumption) ?_
        rotate_left
        · intro w hSw; (try dsimp only at hSw); go_simp; try with_reducible rfl
        (try simp only [Act.put, List.setIfInBounds_toArray, List.set_cons_zero, List.set_cons_succ])
        refine wpAnyH_take (i := 6) (oi := ⟨some 51, _, _, _, _, _⟩) (v := ?_) rfl (by kernel_rfl) (by kernel_rfl) (by kernel_rfl) (fun _ _ _ h => h) (Or.inl ⟨by rfl, ?_⟩) (by assumption) ?_
        rotate_left
        · intro w hSw; (try dsimp only at hSw); go_simp; try with_reducible rfl
        (try simp only [Act.put, List.setIfInBounds_toArray, List.set_cons_zero, List.set_cons_succ])
        refine wpAnyH_take (i := 8) (oi := ⟨some 53, _, _, _, _, _⟩) (v := ?_) rfl (by kernel_rfl) (by kernel_rfl) (by kernel_rfl) (fun _ _ _ h => h) (Or.inl ⟨by rfl, ?_⟩) (by assumption) ?_
        rotate_left
        · intro w hSw; (try dsimp only at hSw); go_simp; try with_reducible rfl
        (try simp only [Act.put, List.setIfInBounds_toArray, List.set_cons_zero, List.set_cons_succ])
        refine wpAnyH_take (i := 1) (oi := ⟨some 46, _, _, _, _, _⟩) (v := ?_) rfl (by kernel_rfl) (by kernel_rfl) (by kernel_rfl) (fun _ _ _ h => h) (Or.inl ⟨by rfl, ?_⟩) (by assumption) ?_
        rotate_left
        · intro w hSw; (try dsimp only at hSw); go_simp; try with_reducible rfl
        (try simp only [Act.put, List.setIfInBounds_toArray, List.set_cons_zero, List.set_cons_succ])
        refine wpAnyH_take (i := 5) (oi := ⟨some 50, _, _, _, _, _⟩) (v := ?_) rfl (by kernel_rfl) (by kernel_rfl) (by kernel_rfl) (fun _ _ _ h => h) (Or.inl ⟨by rfl, ?_⟩) (by assumption) ?_
        rotate_left
        · intro w hSw; (try dsimp only at hSw); go_simp; try with_reducible rfl
        (try simp only [Act.put, List.setIfInBounds_toArray, List.set_cons_zero, List.set_cons_succ])
        refine wpAnyH_take (i := 7) (oi := ⟨some 52, _, _, _, _, _⟩) (v := ?_) rfl (by kernel_rfl) (by kernel_rfl) (by kernel_rfl) (fun _ _ _ h => h) (Or.inl ⟨by rfl, ?_⟩) (by assumption) ?_
        rotate_left
        · intro w hSw; (try dsimp only at hSw); go_simp; try with_reducible rfl
        (try simp only [Act.put, List.setIfInBounds_toArray, List.set_cons_zero, List.set_cons_succ])
        refine wpAnyH_take (i := 2) (oi := ⟨some 47, _, _, _, _, _⟩) (v := ?_) rfl (by kernel_rfl) (by kernel_rfl) (by kernel_rfl) (fun _ _ _ h => h) (Or.inl ⟨by rfl, ?_⟩) (by assumption) ?_
        rotate_left
        · intro w hSw; (try dsimp only at hSw); go_simp; try with_reducible rfl
        (try simp only [Act.put, List.setIfInBounds_toArray, List.set_cons_zero, List.set_cons_succ])
        refine wpAnyH_take (i := 3) (oi := ⟨some 48, _, _, _, _, _⟩) (v := ?_) rfl (by kernel_rfl) (by kernel_rfl) (by kernel_rfl) (fun _ _ _ h => h) (Or.inl ⟨by rfl, ?_⟩) (by assumption) ?_
        rotate_left
        · intro w hSw; (try dsimp only at hSw); go_simp; try with_reducible rfl
        (try simp only [Act.put, List.setIfInBounds_toArray, List.set_cons_zero, List.set_cons_succ])
        refine wpAnyH_ready (rs := [9]) (by kernel_rfl) (by simp) ?_
        refine (AllReadyH.cons (o := ⟨some 54, _, _, _, _, _⟩) rfl (fun K hK => ?_) AllReadyH.nil)
        rw [if_pos (by rfl)]
        go_simp
        go_at_call 44
        have HC := writeM_any (mid_in (P := [_]) (Bs := [_]) hX) HGK.out.sc.ok (HGK.out.st (by omega)) (HGK.out.ll (by omega)) z.1 z.2 bo 256 bc bs (HB.out.rd _ (St.sub hX (.cons _ (List.sublist_append_right _ _)))) HB.out.len (HB.out.off (P := arP ga x1 (m.withA a1).a) (St.tl (St.tl hX)))
        rw [show (m.withA a1).a = a1 from rfl, HE.out, HA'.out] at HC
        refine HC.mono ?_
        clear HC
        rintro _ w6 ⟨rfl, x2, h4⟩
        have hE : St w0 M w6 (.blk g11 83 [.int .i64 z.1, .int .i64 z.2] :: (mP gm ga x2 (m.withA A') ++ R)) := mid_out (P := [_]) (Bs := [_]) hX h4
        clear h4
        refine hK.out _ _ ?_ (fun hHeld => ?_)
        · exact ⟨Loads.at (P := Tryz.prog) [] hE rfl, Loads.at (P := Tryz.prog) [] hE rfl, Loads.at (P := Tryz.prog) [_] hE rfl⟩
        clear hK K
        (try simp only [Act.put, List.setIfInBounds_toArray, List.set_cons_zero, List.set_cons_succ])
        refine wpAnyH_done (by kernel_rfl) ?_ _
        clear hHeld
        go_wp2_with (first | go_big_skip | go_big_guard | fail)
        go_roundw
        case rel => exact ⟨k + 1, cnt + 1, x2, A', by omega, by omega, by go_num, by go_num, HQ, HG2, St.tl hE⟩
        case measure => simp [intOf]; omega
      by_cases e1 : E = 10
      · subst e1
        have HQ := hid (HW.out.trans (HH.out.trans ((if_neg (by decide)).trans (if_pos rfl))))
        clear HW HH
        go_wp2_with (first | go_big_skip | go_big_guard | (refine wl_index rfl rfl rfl rfl (hlt) ?_) | (refine wl_loadE rfl rfl rfl ?_; refine ⟨_, Loads.range (P := Tryz.prog) (cs := [.int .i64 z.1, .int .i64 z.2]) (TyA.out (n := 2)) HAD.out, ?_⟩) | (refine wl_alloc hst rfl rfl ?_; intro g11 w4 hst4; clear hst) | (refine wl_storeA [] hst4 rfl rfl rfl rfl rfl rfl rfl ?_; intro w5 hst5; clear hst4))
        have hX := hst5.drew
        clear hst5
        refine wp_region_held_drew (S := (fun w' => (loadVarH 3 ⟨g11, 0, none⟩).run Tryz.prog w' = .ok (.int .i64 z.1) w' ∧ (loadVarH 3 ⟨g11, 1, none⟩).run Tryz.prog w' = .ok (.int .i64 z.2) w' ∧ (loadVarH 23 ⟨gm, 0, none⟩).run Tryz.prog w' = .ok (.pointer (some ⟨ga, 0, none⟩)) w')) (by kernel_rfl) (by exact ⟨Loads.at (P := Tryz.prog) [] hX rfl, Loads.at (P := Tryz.prog) [] hX rfl, Loads.at (P := Tryz.prog) [_] hX rfl⟩) (fun hHeld => ?_)
        refine wpAnyH_take (i := 0) (oi := ⟨some 45, _, _, _, _, _⟩) (v := ?_) rfl (by kernel_rfl) (by kernel_rfl) (by kernel_rfl) (fun _ _ _ h => h) (Or.inl ⟨by rfl, ?_⟩) (by assumption) ?_
        rotate_left
        · intro w hSw; (try dsimp only at hSw); go_simp; try with_reducible rfl
        (try simp only [Act.put, List.setIfInBounds_toArray, List.set_cons_zero, List.set_cons_succ])
        refine wpAnyH_take (i := 4) (oi := ⟨some 49, _, _, _, _, _⟩) (v := ?_) rfl (by kernel_rfl) (by kernel_rfl) (by kernel_rfl) (fun _ _ _ h => h) (Or.inl ⟨by rfl, ?_⟩) (by assumption) ?_
        rotate_left
        · intro w hSw; (try dsimp only at hSw); go_simp; try with_reducible rfl
        (try simp only [Act.put, List.setIfInBounds_toArray, List.set_cons_zero, List.set_cons_succ])
        refine wpAnyH_take (i := 6) (oi := ⟨some 51, _, _, _, _, _⟩) (v := ?_) rfl (by kernel_rfl) (by kernel_rfl) (by kernel_rfl) (fun _ _ _ h => h) (Or.inl ⟨by rfl, ?_⟩) (by assumption) ?_
        rotate_left
        · intro w hSw; (try dsimp only at hSw); go_simp; try with_reducible rfl
        (try simp only [Act.put, List.setIfInBounds_toArray, List.set_cons_zero, List.set_cons_succ])
        refine wpAnyH_take (i := 8) (oi := ⟨some 53, _, _, _, _, _⟩) (v := ?_) rfl (by kernel_rfl) (by kernel_rfl) (by kernel_rfl) (fun _ _ _ h => h) (Or.inl ⟨by rfl, ?_⟩) (by assumption) ?_
        rotate_left
        · intro w hSw; (try dsimp only at hSw); go_simp; try with_reducible rfl
        (try simp only [Act.put, List.setIfInBounds_toArray, List.set_cons_zero, List.set_cons_succ])
        refine wpAnyH_take (i := 1) (oi := ⟨some 46, _, _, _, _, _⟩) (v := ?_) rfl (by kernel_rfl) (by kernel_rfl) (by kernel_rfl) (fun _ _ _ h => h) (Or.inl ⟨by rfl, ?_⟩) (by assumption) ?_
        rotate_left
        · intro w hSw; (try dsimp only at hSw); go_simp; try with_reducible rfl
        (try simp only [Act.put, List.setIfInBounds_toArray, List.set_cons_zero, List.set_cons_succ])
        refine wpAnyH_take (i := 5) (oi := ⟨some 50, _, _, _, _, _⟩) (v := ?_) rfl (by kernel_rfl) (by kernel_rfl) (by kernel_rfl) (fun _ _ _ h => h) (Or.inl ⟨by rfl, ?_⟩) (by assumption) ?_
        rotate_left
        · intro w hSw; (try dsimp only at hSw); go_simp; try with_reducible rfl
        (try simp only [Act.put, List.setIfInBounds_toArray, List.set_cons_zero, List.set_cons_succ])
        refine wpAnyH_take (i := 7) (oi := ⟨some 52, _, _, _, _, _⟩) (v := ?_) rfl (by kernel_rfl) (by kernel_rfl) (by kernel_rfl) (fun _ _ _ h => h) (Or.inl ⟨by rfl, ?_⟩) (by assumption) ?_
        rotate_left
        · intro w hSw; (try dsimp only at hSw); go_simp; try with_reducible rfl
        (try simp only [Act.put, List.setIfInBounds_toArray, List.set_cons_zero, List.set_cons_succ])
        refine wpAnyH_take (i := 2) (oi := ⟨some 47, _, _, _, _, _⟩) (v := ?_) rfl (by kernel_rfl) (by kernel_rfl) (by kernel_rfl) (fun _ _ _ h => h) (Or.inl ⟨by rfl, ?_⟩) (by assumption) ?_
        rotate_left
        · intro w hSw; (try dsimp only at hSw); go_simp; try with_reducible rfl
        (try simp only [Act.put, List.setIfInBounds_toArray, List.set_cons_zero, List.set_cons_succ])
        refine wpAnyH_take (i := 3) (oi := ⟨some 48, _, _, _, _, _⟩) (v := ?_) rfl (by kernel_rfl) (by kernel_rfl) (by kernel_rfl) (fun _ _ _ h => h) (Or.inl ⟨by rfl, ?_⟩) (by assumption) ?_
        rotate_left
        · intro w hSw; (try dsimp only at hSw); go_simp; try with_reducible rfl
        (try simp only [Act.put, List.setIfInBounds_toArray, List.set_cons_zero, List.set_cons_succ])
        refine wpAnyH_ready (rs := [9]) (by kernel_rfl) (by simp) ?_
        refine (AllReadyH.cons (o := ⟨some 54, _, _, _, _, _⟩) rfl (fun K hK => ?_) AllReadyH.nil)
        rw [if_pos (by rfl)]
        go_simp
        go_at_call 44
        have HC := writeM_any (mid_in (P := [_]) (Bs := [_]) hX) HGK.out.sc.ok (HGK.out.st (by omega)) (HGK.out.ll (by omega)) z.1 z.2 bo 256 bc bs (HB.out.rd _ (St.sub hX (.cons _ (List.sublist_append_right _ _)))) HB.out.len (HB.out.off (P := arP ga x1 (m.withA a1).a) (St.tl (St.tl hX)))
        rw [show (m.withA a1).a = a1 from rfl, HE.out, HA'.out] at HC
        refine HC.mono ?_
        clear HC
        rintro _ w6 ⟨rfl, x2, h4⟩
        have hE : St w0 M w6 (.blk g11 83 [.int .i64 z.1, .int .i64 z.2] :: (mP gm ga x2 (m.withA A') ++ R)) := mid_out (P := [_]) (Bs := [_]) hX h4
        clear h4
        refine hK.out _ _ ?_ (fun hHeld => ?_)
        · exact ⟨Loads.at (P := Tryz.prog) [] hE rfl, Loads.at (P := Tryz.prog) [] hE rfl, Loads.at (P := Tryz.prog) [_] hE rfl⟩
        clear hK K
        (try simp only [Act.put, List.setIfInBounds_toArray, List.set_cons_zero, List.set_cons_succ])
        refine wpAnyH_done (by kernel_rfl) ?_ _
        clear hHeld
        go_wp2_with (first | go_big_skip | go_big_guard | fail)
        go_ret2
        exact ⟨x2, by rw [HQ.out]; rfl, by rw [HQ.out]; exact St.tl hE⟩
      have HQ := hid (HW.out.trans (HH.out.trans ((if_neg e0).trans (if_neg e1))))
      have f0 : (E == 0) = false := beq_eq_false_iff_ne.2 e0
      have f1 : (E == 10) = false := beq_eq_false_iff_ne.2 e1
      clear e0 e1
      clear HW HH
      go_wp2_with (first | go_big_skip | go_big_guard | (refine wl_index rfl rfl rfl rfl (hlt) ?_) | (refine wl_loadE rfl rfl rfl ?_; refine ⟨_, Loads.range (P := Tryz.prog) (cs := [.int .i64 z.1, .int .i64 z.2]) (TyA.out (n := 2)) HAD.out, ?_⟩) | (refine wl_alloc hst rfl rfl ?_; intro g11 w4 hst4; clear hst) | (refine wl_storeA [] hst4 rfl rfl rfl rfl rfl rfl rfl ?_; intro w5 hst5; clear hst4))
      have hX := hst5.drew
      clear hst5
      refine wp_region_held_drew (S := (fun w' => (loadVarH 3 ⟨g11, 0, none⟩).run Tryz.prog w' = .ok (.int .i64 z.1) w' ∧ (loadVarH 3 ⟨g11, 1, none⟩).run Tryz.prog w' = .ok (.int .i64 z.2) w' ∧ (loadVarH 23 ⟨gm, 0, none⟩).run Tryz.prog w' = .ok (.pointer (some ⟨ga, 0, none⟩)) w')) (by kernel_rfl) (by exact ⟨Loads.at (P := Tryz.prog) [] hX rfl, Loads.at (P := Tryz.prog) [] hX rfl, Loads.at (P := Tryz.prog) [_] hX rfl⟩) (fun hHeld => ?_)
      refine wpAnyH_take (i := 0) (oi := ⟨some 45, _, _, _, _, _⟩) (v := ?_) rfl (by kernel_rfl) (by kernel_rfl) (by kernel_rfl) (fun _ _ _ h => h) (Or.inl ⟨by rfl, ?_⟩) (by assumption) ?_
      rotate_left
      · intro w hSw; (try dsimp only at hSw); go_simp; try with_reducible rfl
      (try simp only [Act.put, List.setIfInBounds_toArray, List.set_cons_zero, List.set_cons_succ])
      refine wpAnyH_take (i := 4) (oi := ⟨some 49, _, _, _, _, _⟩) (v := ?_) rfl (by kernel_rfl) (by kernel_rfl) (by kernel_rfl) (fun _ _ _ h => h) (Or.inl ⟨by rfl, ?_⟩) (by assumption) ?_
      rotate_left
      · intro w hSw; (try dsimp only at hSw); go_simp; try with_reducible rfl
      (try simp only [Act.put, List.setIfInBounds_toArray, List.set_cons_zero, List.set_cons_succ])
      refine wpAnyH_take (i := 6) (oi := ⟨some 51, _, _, _, _, _⟩) (v := ?_) rfl (by kernel_rfl) (by kernel_rfl) (by kernel_rfl) (fun _ _ _ h => h) (Or.inl ⟨by rfl, ?_⟩) (by assumption) ?_
      rotate_left
      · intro w hSw; (try dsimp only at hSw); go_simp; try with_reducible rfl
      (try simp only [Act.put, List.setIfInBounds_toArray, List.set_cons_zero, List.set_cons_succ])
      refine wpAnyH_take (i := 8) (oi := ⟨some 53, _, _, _, _, _⟩) (v := ?_) rfl (by kernel_rfl) (by kernel_rfl) (by kernel_rfl) (fun _ _ _ h => h) (Or.inl ⟨by rfl, ?_⟩) (by assumption) ?_
      rotate_left
      · intro w hSw; (try dsimp only at hSw); go_simp; try with_reducible rfl
      (try simp only [Act.put, List.setIfInBounds_toArray, List.set_cons_zero, List.set_cons_succ])
      refine wpAnyH_take (i := 1) (oi := ⟨some 46, _, _, _, _, _⟩) (v := ?_) rfl (by kernel_rfl) (by kernel_rfl) (by kernel_rfl) (fun _ _ _ h => h) (Or.inl ⟨by rfl, ?_⟩) (by assumption) ?_
      rotate_left
      · intro w hSw; (try dsimp only at hSw); go_simp; try with_reducible rfl
      (try simp only [Act.put, List.setIfInBounds_toArray, List.set_cons_zero, List.set_cons_succ])
      refine wpAnyH_take (i := 5) (oi := ⟨some 50, _, _, _, _, _⟩) (v := ?_) rfl (by kernel_rfl) (by kernel_rfl) (by kernel_rfl) (fun _ _ _ h => h) (Or.inl ⟨by rfl, ?_⟩) (by assumption) ?_
      rotate_left
      · intro w hSw; (try dsimp only at hSw); go_simp; try with_reducible rfl
      (try simp only [Act.put, List.setIfInBounds_toArray, List.set_cons_zero, List.set_cons_succ])
      refine wpAnyH_take (i := 7) (oi := ⟨some 52, _, _, _, _, _⟩) (v := ?_) rfl (by kernel_rfl) (by kernel_rfl) (by kernel_rfl) (fun _ _ _ h => h) (Or.inl ⟨by rfl, ?_⟩) (by assumption) ?_
      rotate_left
      · intro w hSw; (try dsimp only at hSw); go_simp; try with_reducible rfl
      (try simp only [Act.put, List.setIfInBounds_toArray, List.set_cons_zero, List.set_cons_succ])
      refine wpAnyH_take (i := 2) (oi := ⟨some 47, _, _, _, _, _⟩) (v := ?_) rfl (by kernel_rfl) (by kernel_rfl) (by kernel_rfl) (fun _ _ _ h => h) (Or.inl ⟨by rfl, ?_⟩) (by assumption) ?_
      rotate_left
      · intro w hSw; (try dsimp only at hSw); go_simp; try with_reducible rfl
      (try simp only [Act.put, List.setIfInBounds_toArray, List.set_cons_zero, List.set_cons_succ])
      refine wpAnyH_take (i := 3) (oi := ⟨some 48, _, _, _, _, _⟩) (v := ?_) rfl (by kernel_rfl) (by kernel_rfl) (by kernel_rfl) (fun _ _ _ h => h) (Or.inl ⟨by rfl, ?_⟩) (by assumption) ?_
      rotate_left
      · intro w hSw; (try dsimp only at hSw); go_simp; try with_reducible rfl
      (try simp only [Act.put, List.setIfInBounds_toArray, List.set_cons_zero, List.set_cons_succ])
      refine wpAnyH_ready (rs := [9]) (by kernel_rfl) (by simp) ?_
      refine (AllReadyH.cons (o := ⟨some 54, _, _, _, _, _⟩) rfl (fun K hK => ?_) AllReadyH.nil)
      rw [if_pos (by rfl)]
      go_simp
      go_at_call 44
      have HC := writeM_any (mid_in (P := [_]) (Bs := [_]) hX) HGK.out.sc.ok (HGK.out.st (by omega)) (HGK.out.ll (by omega)) z.1 z.2 bo 256 bc bs (HB.out.rd _ (St.sub hX (.cons _ (List.sublist_append_right _ _)))) HB.out.len (HB.out.off (P := arP ga x1 (m.withA a1).a) (St.tl (St.tl hX)))
      rw [show (m.withA a1).a = a1 from rfl, HE.out, HA'.out] at HC
      refine HC.mono ?_
      clear HC
      rintro _ w6 ⟨rfl, x2, h4⟩
      have hE : St w0 M w6 (.blk g11 83 [.int .i64 z.1, .int .i64 z.2] :: (mP gm ga x2 (m.withA A') ++ R)) := mid_out (P := [_]) (Bs := [_]) hX h4
      clear h4
      refine hK.out _ _ ?_ (fun hHeld => ?_)
      · exact ⟨Loads.at (P := Tryz.prog) [] hE rfl, Loads.at (P := Tryz.prog) [] hE rfl, Loads.at (P := Tryz.prog) [_] hE rfl⟩
      clear hK K
      (try simp only [Act.put, List.setIfInBounds_toArray, List.set_cons_zero, List.set_cons_succ])
      refine wpAnyH_done (by kernel_rfl) ?_ _
      clear hHeld
      go_wp2_with (first | go_big_skip | go_big_guard | fail)
      go_roundw
      case rel => exact ⟨k + 1, cnt, x2, A', by omega, by omega, by go_num, rfl, HQ, HG2, St.tl hE⟩
      case measure => simp [intOf]; omega
    · obtain rfl : k = n := by omega
      have d0 : decide ((k : Int) < (k : Int)) = false := decide_eq_false (by omega)
      have HQ := hid (show wrote16 bs m.a 0 l = some16 cnt a1 from HW.out.trans (by rw [← HN.out, List.drop_length]; rfl))
      by_cases hc : cnt = 0
      · subst hc
        have HQ2 := hid (HQ.out.trans (show some16 0 a1 = ⟨13, 0, a1⟩ from rfl))
        clear HQ
        rw [show ((0 : Nat) : Int) = 0 from rfl]
        go_wp2_with (first | go_big_skip | go_big_guard | (go_at_call 65; refine (some16_any 0 (by omega) _).mono ?_; rw [if_pos rfl]; rintro _ w9 ⟨rfl, h4⟩; have hst9 := St.call0 hst h4; clear h4 hst))
        go_ret2
        exact ⟨x1, by rw [HQ2.out]; rfl, by rw [HQ2.out]; exact hst9⟩
      · have HC0 := hid hc
        have HQ2 := hid (HQ.out.trans (show some16 cnt a1 = ⟨0, cnt, a1⟩ by unfold some16; rw [if_neg hc]))
        clear HQ
        go_wp2_with (first | go_big_skip | go_big_guard | (go_at_call 65; refine (some16_any cnt (by omega) _).mono ?_; rw [if_neg HC0.out]; rintro _ w9 ⟨rfl, h4⟩; have hst9 := St.call0 hst h4; clear h4 hst))
        go_ret2
        exact ⟨x1, by rw [HQ2.out]; rfl, by rw [HQ2.out]; exact hst9⟩
theorem put_any {w0 w : World} {M : List Nat} {R : List HA} {gm ga : Nat} {x : GA} {m : MV} {N : Nat} (hS : St w0 M w (mP gm ga x m ++ R)) (hg : MGood m N) (ao : Option Addr) (n c : Nat) (l : List (Int × Int)) (hA : ∀ w, St w0 M w R → Rd w (.slice ao n c) 2 n (addrsV l)) (hn : l.length = n) (bo : Option Addr) (bn bc : Nat) (bs : List UInt8) (hb : GB w0 M R (.slice bo bn bc) bn bs) (hN : N ≤ 800000) :
    Calls Tryz.prog 24 #[PM gm, .slice ao n c, .slice bo bn bc] w fun e w' => ∃ x', e = .returned (.tuple #[.int .i64 (m.put l bs).n, .int .i64 (m.put l bs).er]) ∧ St w0 M w' (mP gm ga x' (m.withA (m.put l bs).a) ++ R) := by
  by_cases h1 : bs.length = 256
  · by_cases h2 : n < 1
    · exact put_few hS hg ao n c l hA hn bo bn bc bs hb hN h1 h2
    · by_cases h3 : 3 < n
      · exact put_many hS hg ao n c l hA hn bo bn bc bs hb hN h1 h2 h3
      · cases h4 : m.lies l
        · exact put_off hS hg ao n c l hA hn bo bn bc bs hb hN h1 h2 h3 h4
        · cases h5 : apartB l
          · exact put_near hS hg ao n c l hA hn bo bn bc bs hb hN h1 h2 h3 h4 h5
          · exact put_ok hS hg ao n c l hA hn bo bn bc bs hb hN h1 h2 h3 h4 h5
  · exact put_len hS hg ao n c l hA hn bo bn bc bs hb hN h1
end
end Go.Proofs.YtmdfbdfijnmhkaaGreat
namespace Go.Proofs.YtmdfbdfijnmhkaaGreat
set_option linter.unusedVariables false
set_option linter.unusedSimpArgs false
open Go.RowKit Hp
attribute [local irreducible] Go.Calls Go.wpList
set_option maxRecDepth 100000
set_option maxHeartbeats 4000000
theorem flushed_step {d k cnt : Nat} {a : AR} (hk : k < d) : flushed16 d (d - k) a cnt = (if a.up (k : Int) = false then flushed16 d (d - (k + 1)) a cnt
    else if a.flushE (k : Int) = 0 then flushed16 d (d - (k + 1)) (a.flush (k : Int)) (cnt + 1)
    else if a.flushE (k : Int) = 10 then ⟨10, 0, a.flush (k : Int)⟩
    else flushed16 d (d - (k + 1)) (a.flush (k : Int)) cnt) := by
  have e : d - k = (d - (k + 1)) + 1 := by omega
  rw [e]
  conv => lhs; unfold flushed16
  have e2 : d - (d - (k + 1) + 1) = k := by omega
  rw [e2]
theorem flush_out {w0 w : World} {M : List Nat} {R : List HA} {gm ga : Nat} {x : GA} {m : MV} {N : Nat} (hS : St w0 M w (mP gm ga x m ++ R)) (hg : MGood m N) (hN : N ≤ 800000) (h1 : m.a.out = true) :
    Calls Tryz.prog 26 #[PM gm] w fun e w' => ∃ x', e = .returned (.tuple #[.int .i64 m.flush.n, .int .i64 m.flush.er]) ∧ St w0 M w' (mP gm ga x' (m.withA m.flush.a) ++ R) := by
  have hr : m.flush = ⟨10, 0, m.a⟩ := by unfold MV.flush; rw [h1]; rfl
  rw [hr]
  have hst := hS
  have HG := hid hg
  have HO := hid h1
  clear hS hg h1 hr
  unfold PM
  go_enter Tryz.func26, Tryz.ntmps26
  go_wp2_with (first | go_big_skip | go_big_guard | (go_at_call 62; refine (mirNone_any (St.mat hst HG.out.sc.ok.d0)).mono ?_; rintro _ w2 ⟨rfl, h4⟩; replace hst := St.call0 hst h4; clear h4) | (go_at_call 66; have HC := broken_any hst HG.out (by omega); rw [HO.out] at HC; refine HC.mono ?_; clear HC; rintro _ w2 ⟨rfl, h4⟩; replace hst := h4; clear h4))
  go_ret2
  exact ⟨x, rfl, hst⟩
theorem flush_on {w0 w : World} {M : List Nat} {R : List HA} {gm ga : Nat} {x : GA} {m : MV} {N : Nat} (hS : St w0 M w (mP gm ga x m ++ R)) (hg : MGood m N) (hN : N ≤ 800000) (h1 : m.a.out = false) :
    Calls Tryz.prog 26 #[PM gm] w fun e w' => ∃ x', e = .returned (.tuple #[.int .i64 m.flush.n, .int .i64 m.flush.er]) ∧ St w0 M w' (mP gm ga x' (m.withA m.flush.a) ++ R) := by
  have hr : m.flush = flushed16 m.a.devs.length m.a.devs.length m.a 0 := by unfold MV.flush; rw [h1]; rfl
  rw [hr]
  have hst := hS
  have HG := hid hg
  have HO := hid h1
  obtain ⟨d, hd⟩ : ∃ d, d = m.a.devs.length := ⟨_, rfl⟩
  have HD := hid hd
  have hd8 : d ≤ 8 := by rw [hd]; exact hg.sc.ok.dn
  rw [← hd]
  obtain ⟨F, hF⟩ : ∃ F, F = flushed16 d d m.a 0 := ⟨_, rfl⟩
  have HF := hid hF
  rw [← hF]
  clear hS hg h1 hr hd hF
  unfold PM
  go_enter Tryz.func26, Tryz.ntmps26
  go_wp2_with (first | go_big_skip | go_big_guard | (go_at_call 62; refine (mirNone_any (St.mat hst HG.out.sc.ok.d0)).mono ?_; rintro _ w2 ⟨rfl, h4⟩; replace hst := St.call0 hst h4; clear h4) | (go_at_call 66; have HC := broken_any hst HG.out (by omega); rw [HO.out] at HC; refine HC.mono ?_; clear HC; rintro _ w2 ⟨rfl, h4⟩; replace hst := h4; clear h4) | (refine wl_loadE rfl rfl rfl ?_; refine ⟨_, Loads.at (P := Tryz.prog) [] hst rfl, ?_⟩) | (go_at_call 67; have HC := devs_any (St.mat hst HG.out.sc.ok.d0).arr.toArrAt; rw [← HD.out] at HC; refine HC.mono ?_; clear HC; rintro _ w3 ⟨rfl, h4⟩; replace hst := St.call0 hst h4; clear h4))
  go_loopw [4, 17] (fun q i wr => ∃ (k cnt : Nat) (x' : GA) (a' : AR), k ≤ d ∧ cnt ≤ k ∧ i = .int .i64 k ∧ q = .int .i64 cnt ∧ Hid (F = flushed16 d (d - k) a' cnt) ∧ Hid (MGood (m.withA a') (N + k)) ∧ St w0 M wr (mP gm ga x' (m.withA a') ++ R)) (fun _ i _ => d - (intOf i).toNat)
  case atStart => exact ⟨0, 0, x, m.a, Nat.zero_le _, Nat.zero_le _, rfl, rfl, HF, HG, hst⟩
  case round =>
    clear hst
    obtain ⟨k, cnt, x1, a1, hk, hck, rfl, rfl, HW, HGK, hst⟩ := hrel
    by_cases hlt : k < d
    · have d0 : decide ((k : Int) < (d : Int)) = true := decide_eq_true (by omega)
      have HH := hid (flushed_step (a := a1) (cnt := cnt) hlt)
      cases hup : a1.up (k : Int)
      · have HUP := hid hup
        have HQ := hid (HW.out.trans (HH.out.trans (if_pos hup)))
        clear HW HH hup
        go_wp2_with (first | go_big_skip | go_big_guard | (refine wl_loadE rfl rfl rfl ?_; refine ⟨_, Loads.at (P := Tryz.prog) [] hst rfl, ?_⟩) | (go_at_call 42; refine (up_any (a := a1) (St.mat hst HGK.out.sc.ok.d0).arr.toArrAt (k : Int)).mono ?_; rw [HUP.out]; rintro _ w3 ⟨rfl, h4⟩; have hst3 := St.call0 hst h4; clear h4 hst))
        go_roundw
        case rel => exact ⟨k + 1, cnt, x1, a1, by omega, by omega, by go_num, rfl, HQ, hid (HGK.out.mono (by omega)), hst3⟩
        case measure => simp [intOf]; omega
      · have HUP := hid hup
        obtain ⟨E, hE⟩ : ∃ E, E = a1.flushE (k : Int) := ⟨_, rfl⟩
        obtain ⟨A', hA'⟩ : ∃ A', A' = a1.flush (k : Int) := ⟨_, rfl⟩
        have HE := hid hE.symm
        have HA' := hid hA'.symm
        rw [← hE, ← hA', hup] at HH
        have HG2 := hid (show MGood (m.withA A') (N + k + 1) from by rw [hA']; exact HGK.out.arr (HGK.out.sc.ok.flush _) (Stays.flush _ _))
        have HW2 := hid (HW.out.trans (HH.out.trans (if_neg (by decide))))
        clear HW HH hup hE hA'
        by_cases e0 : E = 0
        · subst e0
          have HQ := hid (HW2.out.trans (if_pos rfl))
          clear HW2
          go_wp2_with (first | go_big_skip | go_big_guard | (refine wl_loadE rfl rfl rfl ?_; first | refine ⟨_, Loads.at (P := Tryz.prog) [] hst rfl, ?_⟩ | refine ⟨_, Loads.at (P := Tryz.prog) [] hst3 rfl, ?_⟩) | (go_at_call 42; refine (up_any (a := a1) (St.mat hst HGK.out.sc.ok.d0).arr.toArrAt (k : Int)).mono ?_; rw [HUP.out]; rintro _ w3 ⟨rfl, h4⟩; have hst3 := St.call0 hst h4; clear h4 hst) | (go_at_call 52; have HC := flushM_any (mid_in (P := []) (Bs := [_]) hst3) HGK.out.sc.ok (HGK.out.st (by omega)) (HGK.out.ll (by omega)) (k : Int); rw [show (m.withA a1).a = a1 from rfl, HE.out, HA'.out] at HC; refine HC.mono ?_; clear HC; rintro _ w4 ⟨rfl, x2, h4⟩; have hst4 : St w0 M w4 (mP gm ga x2 (m.withA A') ++ R) := mid_out (P := []) (Bs := [_]) hst3 h4; clear h4 hst3))
          go_roundw
          case rel => exact ⟨k + 1, cnt + 1, x2, A', by omega, by omega, by go_num, by go_num, HQ, HG2, hst4⟩
          case measure => simp [intOf]; omega
        by_cases e1 : E = 10
        · subst e1
          have HQ := hid (HW2.out.trans ((if_neg (by decide)).trans (if_pos rfl)))
          clear HW2
          go_wp2_with (first | go_big_skip | go_big_guard | (refine wl_loadE rfl rfl rfl ?_; first | refine ⟨_, Loads.at (P := Tryz.prog) [] hst rfl, ?_⟩ | refine ⟨_, Loads.at (P := Tryz.prog) [] hst3 rfl, ?_⟩) | (go_at_call 42; refine (up_any (a := a1) (St.mat hst HGK.out.sc.ok.d0).arr.toArrAt (k : Int)).mono ?_; rw [HUP.out]; rintro _ w3 ⟨rfl, h4⟩; have hst3 := St.call0 hst h4; clear h4 hst) | (go_at_call 52; have HC := flushM_any (mid_in (P := []) (Bs := [_]) hst3) HGK.out.sc.ok (HGK.out.st (by omega)) (HGK.out.ll (by omega)) (k : Int); rw [show (m.withA a1).a = a1 from rfl, HE.out, HA'.out] at HC; refine HC.mono ?_; clear HC; rintro _ w4 ⟨rfl, x2, h4⟩; have hst4 : St w0 M w4 (mP gm ga x2 (m.withA A') ++ R) := mid_out (P := []) (Bs := [_]) hst3 h4; clear h4 hst3))
          go_ret2
          exact ⟨x2, by rw [HQ.out]; rfl, by rw [HQ.out]; exact hst4⟩
        have HQ := hid (HW2.out.trans ((if_neg e0).trans (if_neg e1)))
        have f0 : (E == 0) = false := beq_eq_false_iff_ne.2 e0
        have f1 : (E == 10) = false := beq_eq_false_iff_ne.2 e1
        clear e0 e1
        clear HW2
        go_wp2_with (first | go_big_skip | go_big_guard | (refine wl_loadE rfl rfl rfl ?_; first | refine ⟨_, Loads.at (P := Tryz.prog) [] hst rfl, ?_⟩ | refine ⟨_, Loads.at (P := Tryz.prog) [] hst3 rfl, ?_⟩) | (go_at_call 42; refine (up_any (a := a1) (St.mat hst HGK.out.sc.ok.d0).arr.toArrAt (k : Int)).mono ?_; rw [HUP.out]; rintro _ w3 ⟨rfl, h4⟩; have hst3 := St.call0 hst h4; clear h4 hst) | (go_at_call 52; have HC := flushM_any (mid_in (P := []) (Bs := [_]) hst3) HGK.out.sc.ok (HGK.out.st (by omega)) (HGK.out.ll (by omega)) (k : Int); rw [show (m.withA a1).a = a1 from rfl, HE.out, HA'.out] at HC; refine HC.mono ?_; clear HC; rintro _ w4 ⟨rfl, x2, h4⟩; have hst4 : St w0 M w4 (mP gm ga x2 (m.withA A') ++ R) := mid_out (P := []) (Bs := [_]) hst3 h4; clear h4 hst3))
        go_roundw
        case rel => exact ⟨k + 1, cnt, x2, A', by omega, by omega, by go_num, rfl, HQ, HG2, hst4⟩
        case measure => simp [intOf]; omega
    · obtain rfl : k = d := by omega
      have d0 : decide ((k : Int) < (k : Int)) = false := decide_eq_false (by omega)
      have HQ := hid (show F = some16 cnt a1 from HW.out.trans (by rw [Nat.sub_self]; rfl))
      by_cases hc : cnt = 0
      · subst hc
        have HQ2 := hid (HQ.out.trans (show some16 0 a1 = ⟨13, 0, a1⟩ from rfl))
        clear HQ
        rw [show ((0 : Nat) : Int) = 0 from rfl]
        go_wp2_with (first | go_big_skip | go_big_guard | (go_at_call 65; refine (some16_any 0 (by omega) _).mono ?_; rw [if_pos rfl]; rintro _ w9 ⟨rfl, h4⟩; have hst9 := St.call0 hst h4; clear h4 hst))
        go_ret2
        exact ⟨x1, by rw [HQ2.out]; rfl, by rw [HQ2.out]; exact hst9⟩
      · have HC0 := hid hc
        have HQ2 := hid (HQ.out.trans (show some16 cnt a1 = ⟨0, cnt, a1⟩ by unfold some16; rw [if_neg hc]))
        clear HQ
        go_wp2_with (first | go_big_skip | go_big_guard | (go_at_call 65; refine (some16_any cnt (by omega) _).mono ?_; rw [if_neg HC0.out]; rintro _ w9 ⟨rfl, h4⟩; have hst9 := St.call0 hst h4; clear h4 hst))
        go_ret2
        exact ⟨x1, by rw [HQ2.out]; rfl, by rw [HQ2.out]; exact hst9⟩
theorem mflush_any {w0 w : World} {M : List Nat} {R : List HA} {gm ga : Nat} {x : GA} {m : MV} {N : Nat} (hS : St w0 M w (mP gm ga x m ++ R)) (hg : MGood m N) (hN : N ≤ 800000) :
    Calls Tryz.prog 26 #[PM gm] w fun e w' => ∃ x', e = .returned (.tuple #[.int .i64 m.flush.n, .int .i64 m.flush.er]) ∧ St w0 M w' (mP gm ga x' (m.withA m.flush.a) ++ R) := by
  cases h1 : m.a.out
  · exact flush_on hS hg hN h1
  · exact flush_out hS hg hN h1
end Go.Proofs.YtmdfbdfijnmhkaaGreat
namespace Go.Proofs.YtmdfbdfijnmhkaaGreat
set_option linter.unusedVariables false
set_option linter.unusedSimpArgs false
open Go.RowKit Hp
attribute [local irreducible] Go.Calls Go.wpList
set_option maxRecDepth 100000
set_option maxHeartbeats 8000000
end Go.Proofs.YtmdfbdfijnmhkaaGreat
namespace Go.Proofs.YtmdfbdfijnmhkaaGreat
set_option linter.unusedVariables false
set_option linter.unusedSimpArgs false
open Go.RowKit Hp
attribute [local irreducible] Go.Calls Go.wpList
set_option maxRecDepth 100000
set_option maxHeartbeats 8000000
def SR.cells (s : SR) : List Value := [.int .i64 s.good, .int .i64 s.he, .int .i64 s.bad, .int .i64 s.lost]
section
attribute [local go_sem ↓] loadedBs8 loadedAs8
attribute [local go_sem] Oper.semAt_some
end
end Go.Proofs.YtmdfbdfijnmhkaaGreat
namespace Go.Proofs.YtmdfbdfijnmhkaaGreat
set_option linter.unusedVariables false
set_option linter.unusedSimpArgs false
open Go.RowKit Hp
attribute [local irreducible] Go.Calls Go.wpList
set_option maxRecDepth 100000
set_option maxHeartbeats 4000000
def sect (b : UInt8) : List UInt8 := List.replicate 256 b
theorem sect_len (b : UInt8) : (sect b).length = 256 := List.length_replicate
theorem rep_put16 (j n : Nat) (b z : Value) (h : j < n) : putAt (List.replicate j b ++ List.replicate (n - j) z) j [b] = List.replicate (j + 1) b ++ List.replicate (n - (j + 1)) z := by
  have key : n - j = (n - (j + 1)) + 1 := by omega
  rw [putAt_many, key, List.replicate_succ]
  rw [List.take_append_of_le_length (by simp), List.take_of_length_le (by simp), List.drop_append, List.drop_of_length_le (by simp), List.nil_append, List.length_replicate, List.length_singleton, show j + 1 - j = 1 by omega, List.drop_one, List.tail_cons, ← List.append_assoc, List.replicate_succ']
theorem of16_any (b : UInt8) (w : World) : Calls Tryz.prog 11 #[.int .u8 b.toNat] w fun e w' => ∃ g, e = .returned (.slice (some ⟨g, 0, none⟩) 256 256) ∧ St w [] w' [.blk g 5 (bytesV (sect b))] := by
  have hst0 := St.refl w
  go_enter Tryz.func11, Tryz.ntmps11
  go_wp2_with (first | go_big_skip | go_big_guard | (apply wl_make 256 256 hst0; rfl; rfl; exact rfl; exact rfl; infer_instance; infer_instance; infer_instance; exact rfl; exact rfl; decide; decide; intro g _ hst1; clear hst0))
  go_loopw [4] (fun i wr => ∃ j : Nat, j ≤ 256 ∧ i = .int .i64 (j : Int) ∧ St w [] wr [.blk g 5 (List.replicate j (.int .u8 b.toNat) ++ List.replicate (256 - j) (.int .u8 0))]) (fun i _ => 256 - (intOf i).toNat)
  case atStart => exact ⟨0, by decide, rfl, hst1⟩
  case round =>
    clear hst1
    obtain ⟨j, hj, rfl, hst⟩ := hrel
    by_cases hlj : j < 256
    · have d1 : decide ((j : Int) < 256) = true := decide_eq_true (by omega)
      have z1 : IntKind.i64.wrap ((j : Int) + 1) = (j : Int) + 1 := IntWalk.i64_in _ (by omega)
      have HP := hid (rep_put16 j 256 (.int .u8 b.toNat) (.int .u8 0) hlj)
      have HL := hid (show j * 1 + 1 ≤ (List.replicate j (Value.int .u8 b.toNat) ++ List.replicate (256 - j) (Value.int .u8 0)).length by rw [List.length_append, List.length_replicate, List.length_replicate]; omega)
      obtain ⟨CS, hCS⟩ : ∃ CS, CS = List.replicate j (Value.int .u8 b.toNat) ++ List.replicate (256 - j) (Value.int .u8 0) := ⟨_, rfl⟩
      rw [← hCS] at hst HP HL
      clear hCS
      go_wp2_with (first | go_big_skip | go_big_guard | (refine wl_index (k := j) rfl rfl rfl rfl hlj ?_) | (refine wl_store [] hst rfl rfl rfl (v := .int _ _) rfl rfl rfl (by rw [Nat.zero_add]; exact HL.out) ?_; intro w5 hst2; clear hst))
      go_roundw
      case rel =>
        refine ⟨j + 1, by omega, rfl, ?_⟩
        rw [← HP.out]
        rw [Nat.zero_add, Nat.mul_one] at hst2
        exact hst2
      case measure => simp [intOf]; omega
    · have d1 : decide ((j : Int) < 256) = false := decide_eq_false (by omega)
      have hjn : j = 256 := by omega
      subst hjn
      go_wp2_with (first | go_big_skip | go_big_guard | fail)
      go_ret
      refine ⟨g, rfl, ?_⟩
      have e : bytesV (sect b) = List.replicate 256 (.int .u8 b.toNat) := by simp [bytesV, sect]
      rw [e]
      have := hst
      rw [Nat.sub_self, List.replicate_zero, List.append_nil] at this
      exact this
def onDevs (k : Nat) : List (Int × Int) := (List.range k).map fun (i : Nat) => ((i : Int), (5 : Int))
theorem onDevs_len (k : Nat) : (onDevs k).length = k := by simp [onDevs]
theorem onDevs_succ (k : Nat) : onDevs (k + 1) = onDevs k ++ [((k : Int), 5)] := by simp [onDevs, List.range_succ]
theorem ptr_places (ps : List (Nat × Value)) : Tryz.prog.built 34 ps = Instr.fill (#[(0, 1), (1, 1), (2, 1), (3, 32)][·]?) (Array.mk (.slice none 0 0 :: .int .i64 0 :: .int .i64 0 :: List.replicate 32 (.int .u8 0))) ps := by kernel_rfl
theorem built_ptr {d : Int} {S : List UInt8} (hb : S.length = 32) : Tryz.prog.built 34 [(1, .int .i64 d), (3, .agg (bytesV S).toArray)] = some (ptrCells (.slice none 0 0) d 0 S).toArray := by
  rw [ptr_places]
  have h1 := fold_set 3 (bytesV S) 0 [.slice none 0 0, .int .i64 d, .int .i64 0] (List.replicate 32 (.int .u8 0)) rfl (by rw [length_bytesV, hb, List.length_replicate]; exact Nat.le_refl _)
  have hl : (bytesV S).length = 32 := by rw [length_bytesV, hb]
  obtain ⟨Z, hZ⟩ : ∃ Z : List Value, Z = List.replicate 32 (.int .u8 0) := ⟨_, rfl⟩
  have hz : Z.length = 32 := by rw [hZ, List.length_replicate]
  rw [← hZ] at h1 ⊢
  have hc : (Value.agg (bytesV S).toArray).cells = (bytesV S).toArray := rfl
  have e0 : Instr.fill (#[(0, 1), (1, 1), (2, 1), (3, 32)][·]?) (Array.mk (.slice none 0 0 :: .int .i64 0 :: .int .i64 0 :: Z)) [(1, .int .i64 d), (3, .agg (bytesV S).toArray)] = Instr.fill (#[(0, 1), (1, 1), (2, 1), (3, 32)][·]?) (Array.mk (.slice none 0 0 :: .int .i64 d :: .int .i64 0 :: Z)) [(3, .agg (bytesV S).toArray)] := by
    simp [Instr.fill, Value.cells]
    omega
  rw [e0]
  simp only [Instr.fill, hc]
  rw [show (#[(0, 1), (1, 1), (2, 1), (3, 32)] : Array (Nat × Nat))[3]? = some (3, 32) from rfl]
  dsimp only
  rw [if_neg (by simp [hb, hz])]
  rw [← Array.foldl_toList, Array.toList_zipIdx]
  have h2 : List.foldl (fun (cs : Array Value) (x : Value × Nat) => match x with | (c, j) => cs.setIfInBounds (3 + j) c) (Array.mk (Value.slice none 0 0 :: Value.int .i64 d :: Value.int .i64 0 :: Z)) (bytesV S).zipIdx = ([Value.slice none 0 0, Value.int .i64 d, Value.int .i64 0] ++ (bytesV S ++ Z.drop (bytesV S).length)).toArray := h1
  rw [List.toList_toArray, h2, hl, List.drop_of_length_le (by omega), List.append_nil]
  rfl
theorem results_cellQ {fn : Func} {p : Tmp} {ty : TypeId} {tmps : Array Value} {P : Program} {w : World} {A : Addr} {v : Value} (h : fn.results = #[.cell p ty]) (hp : tmps.getD p undef = .pointer (some A)) (hl : Loads P w ty A v) :
    (results fn tmps).run P w = .ok v w := by
  have hl' : (loadVar ty A).run P w = .ok v w := hl
  have hp' : tmps[p]?.getD undef = .pointer (some A) := by simpa using hp
  simp [results, h, hp', asAddr, hl', Sem.run_bind]
section
theorem storedPt (A : Addr) (v : Value) : storeVar 34 A v = storeVarH 34 A v := rfl
theorem loadedPt (A : Addr) : loadVar 34 A = loadVarH 34 A := rfl
attribute [local go_sem ↓] storedPt loadedPt
theorem points_any {w0 w : World} {M : List Nat} {L : List HA} (hS : St w0 M w L) (ao : Option Addr) (n c : Nat) (bs : List UInt8) (hr : ∀ w, St w0 M w L → Rd w (.slice ao n c) 1 n (bytesV bs)) (hn : bs.length = n) (hb : n ≤ 100000) (k : Nat) (hk : k ≤ 1000) :
    Calls Tryz.prog 12 #[.slice ao n c, .int .i64 k] w fun e w' => ∃ sa sc, e = .returned (.agg (ptrCells (.slice sa k sc) 1 0 (sumB bs)).toArray) ∧ St w0 M w' (.row (.slice sa k sc) 83 2 k (addrsV (onDevs k)) :: L) := by
  have hst := hS
  have HR := hid hr
  have HN := hid hn
  obtain ⟨S, hS2⟩ : ∃ S, S = sumB bs := ⟨_, rfl⟩
  have HS2 := hid hS2.symm
  have hs32 : S.length = 32 := by rw [hS2]; exact length_bytesS _
  have HL := hid (show L32 S from hs32)
  have HB := hid (built_ptr (d := 1) hs32)
  rw [← hS2]
  clear hS hr hn hS2 hs32
  go_enter Tryz.func12, Tryz.ntmps12
  go_wp2_with (first | go_big_skip | go_big_guard | (refine wl_alloc (T := 34) hst rfl rfl ?_; intro g4 w1 hst1; clear hst) | (go_at_call 23; refine (sum_any ao n c bs _ (HR.out _ (St.tl hst1)) HN.out hb).mono ?_; rw [HS2.out]; rintro _ w2 ⟨rfl, h4⟩; have hst2 := St.call0 hst1 h4; clear h4 hst1) | (refine wl_buildX (cs := ptrCells (.slice none 0 0) 1 0 S) [(1, .int .i64 1), (3, .agg (List.toArray (bytesV S)))] rfl rfl (by exact rfl) (by exact HB.out) ?_) | (refine wl_alloc (T := 34) hst2 rfl rfl ?_; intro g5 w3 hst3; clear hst2) | (refine wl_storeA [] hst3 rfl rfl rfl rfl (ptr_len HL.out _ _ _) (ptr_ones _ _ _ _ _ _) (ptr_len L32.nones _ _ _) ?_; intro w4 hst4; clear hst3))
  have hst5 := St.nilRow 83 2 hst4
  clear hst4
  go_loopw [6] (fun i wr => ∃ j : Nat, j ≤ k ∧ i = .int .i64 (j : Int) ∧ ∃ sv, St w0 M wr (.row sv 83 2 j (addrsV (onDevs j)) :: .blk g5 34 (ptrCells sv 1 0 S) :: .blk g4 34 (ptrCells (.slice none 0 0) 0 0 nones) :: L)) (fun i _ => k - (intOf i).toNat)
  case atStart => exact ⟨0, Nat.zero_le _, rfl, _, hst5⟩
  case round =>
    clear hst5
    obtain ⟨j, hj, rfl, sv, hst⟩ := hrel
    obtain ⟨sa, sc, rfl⟩ := St.rowSliceAt [] hst
    by_cases hlj : j < k
    · have d1 : decide ((j : Int) < (k : Int)) = true := decide_eq_true (by omega)
      have z1 : IntKind.i64.wrap ((j : Int) + 1) = (j : Int) + 1 := IntWalk.i64_in _ (by omega)
      go_wp2_with (first | go_big_skip | go_big_guard | (refine wl_loadE rfl rfl rfl ?_; refine ⟨_, Loads.at (P := Tryz.prog) [_] hst rfl, ?_⟩) | (refine wl_buildX (cs := [.int .i64 (j : Int), .int .i64 5]) [(0, .int .i64 (j : Int)), (1, .int .i64 5)] rfl rfl (by exact rfl) (by kernel_rfl) ?_) | (apply wl_bsX [.agg (List.toArray [.int .i64 (j : Int), .int .i64 5])] [.int .i64 (j : Int), .int .i64 5] hst; rfl; rfl; exact rfl; exact rfl; infer_instance; infer_instance; rfl; rfl; rfl; intro g12 w2 hs2; clear hst) | (apply wl_appX [_] hs2; rfl; rfl; exact rfl; exact rfl; infer_instance; infer_instance; infer_instance; exact (Rd.blk0 hs2 rfl (by decide)); exact rfl; (unfold maxLen; omega); intro v1 w3 hs3 _; clear hs2; obtain ⟨a4, c4, rfl⟩ := St.rowSliceAt [_] hs3) | (refine wl_store [_, _] hs3 rfl rfl rfl (v := .slice _ _ _) rfl rfl rfl ?_ ?_; exact Nat.le_add_left _ _; intro w4 hs4; clear hs3))
      go_roundw
      case rel =>
        refine ⟨j + 1, by omega, rfl, .slice a4 (j + 1) c4, ?_⟩
        rw [onDevs_succ, addrsV_snoc]
        exact St.tl hs4
      case measure => simp [intOf]; omega
    · have d1 : decide ((j : Int) < (k : Int)) = false := decide_eq_false (by omega)
      have hjn : j = k := by omega
      subst hjn
      go_wp2_with (first | go_big_skip | go_big_guard | (refine wl_loadE rfl rfl rfl ?_; refine ⟨_, Loads.atA (P := Tryz.prog) (ptrCells (.slice sa j sc) 1 0 S) [_] hst (ptr_len HL.out _ _ _) (ptr_all _ _ _ _), ?_⟩) | (refine wl_storeA [_, _] hst rfl rfl rfl rfl (ptr_len HL.out _ _ _) (ptr_ones _ _ _ _ _ _) (ptr_len L32.nones _ _ _) ?_; intro w4 hst4; clear hst))
      refine bodyPost_ret (results_cellQ rfl rfl (Loads.atA (P := Tryz.prog) (ptrCells (.slice sa j sc) 1 0 S) [_, _] hst4 (ptr_len HL.out _ _ _) (ptr_all _ _ _ _))) rfl ⟨sa, sc, rfl, St.sub hst4 (.cons_cons _ (.cons _ (.cons _ (List.Sublist.refl _))))⟩
end
end Go.Proofs.YtmdfbdfijnmhkaaGreat
namespace Go.Proofs.YtmdfbdfijnmhkaaGreat
set_option linter.unusedVariables false
set_option linter.unusedSimpArgs false
open Go.RowKit Hp
attribute [local irreducible] Go.Calls Go.wpList
set_option maxRecDepth 100000
set_option maxHeartbeats 4000000
theorem wrote_good {m : MV} {b : List UInt8} : ∀ {l : List (Int × Int)} {a : AR} {k N : Nat}, MGood (m.withA a) N → MGood (m.withA (wrote16 b a k l).a) (N + l.length)
  | [], a, k, N, h => by
    unfold wrote16 some16
    split <;> exact h
  | z :: l, a, k, N, h => by
    have h1 : MGood (m.withA (a.write z.1 z.2 b)) (N + 1) := h.arr (h.sc.ok.write _ _ _) (Stays.write _ _ _ _)
    rw [show N + (z :: l).length = N + 1 + l.length by rw [List.length_cons]; omega]
    unfold wrote16
    split
    · exact wrote_good h1
    · split
      · exact h1.mono (Nat.le_add_right _ _)
      · exact wrote_good h1
theorem put_good {m : MV} {N : Nat} (h : MGood m N) (l : List (Int × Int)) (b : List UInt8) : MGood (m.withA (m.put l b).a) (N + l.length) := by
  unfold MV.put
  split
  · exact wrote_good h
  · exact MGood.mono h (Nat.le_add_right _ _)
theorem made16_any (w : World) : Calls Tryz.prog 9 #[] w fun e w' => ∃ gm ga x gs, e = .returned (.tuple #[.pointer (some ⟨ga, 0, none⟩), PM gm]) ∧ gs.length = 3 ∧ St w [] w' (mP gm ga x ⟨newA 8 gs, zeroE⟩) := by
  have hst0 := St.refl w
  go_enter Tryz.func9, Tryz.ntmps9
  go_wp2_with (first | go_big_skip | go_big_guard | (go_at_call 28; refine (newM_any 3 8 (by decide) (by decide) _).mono ?_; rintro _ w1 ⟨ga, x, gs, rfl, hgl, h4⟩; have hst1 : St w [] w1 (arP ga x (newA 8 gs) ++ []) := St.call hst0 h4; have HGL := hid hgl; clear h4 hgl hst0) | (go_at_call 30; refine (mirNew_any hst1 (by intro h; have h2 := congrArg List.length h; rw [show (newA 8 gs).devs.length = 3 from (List.length_map _).trans HGL.out] at h2; cases h2)).mono ?_; rintro _ w2 ⟨gm, rfl, h4⟩; have hst2 : St w [] w2 (mP gm ga x ⟨newA 8 gs, zeroE⟩) := (by rw [List.append_nil] at h4; exact h4); clear h4 hst1; unfold PM))
  go_ret2
  exact ⟨gm, ga, x, gs, rfl, HGL.out, hst2⟩
section
theorem loadedPt2 (A : Addr) : loadVar 34 A = loadVarH 34 A := rfl
attribute [local go_sem ↓] loadedPt2 loadedAs8
theorem puts_any {w0 w : World} {M : List Nat} {R : List HA} {gm ga : Nat} {x : GA} {m : MV} {N : Nat} (hS : St w0 M w (mP gm ga x m ++ R)) (hg : MGood m N) (ao : Option Addr) (n c : Nat) (l : List (Int × Int)) (b v : Int) (S : List UInt8) (hL : L32 S) (hA : ∀ w, St w0 M w R → Rd w (.slice ao n c) 2 n (addrsV l)) (hn : l.length = n) (bo : Option Addr) (bn bc : Nat) (bs : List UInt8) (hb : GB w0 M R (.slice bo bn bc) bn bs) (hN : N + n ≤ 800000) (A1 A2 : AR) (h1 : m.put l bs = ⟨0, n, A1⟩) (h2 : (m.withA A1).flush = ⟨0, 3, A2⟩) :
    Calls Tryz.prog 13 #[PM gm, .agg (ptrCells (.slice ao n c) b v S).toArray, .slice bo bn bc] w fun e w' => ∃ x', e = .returned (.bool true) ∧ St w0 M w' (mP gm ga x' (m.withA A2) ++ R) := by
  have hst := hS
  have HG := hid hg
  have HL := hid hL
  have HN := hid hn
  have HA := hid hA
  have HB := hid hb
  have HG2 := hid (show MGood (m.withA A1) (N + n) from by have := put_good hg l bs; rw [h1, hn] at this; exact this)
  have H1 := hid h1
  have H2 := hid h2
  clear hS hg hL hn hA hb h1 h2
  unfold PM
  go_enter Tryz.func13, Tryz.ntmps13
  go_wp2_with (first | go_big_skip | go_big_guard | (refine wl_boxA hst rfl rfl rfl ?_; intro g3 w1 hst0; clear hst; have hst1 : St w0 M w1 (mP gm ga x m ++ (.blk g3 34 (ptrCells (.slice ao n c) b v S) :: R)) := St.behind (A := mP gm ga x m) hst0; clear hst0) | (refine wl_loadE rfl rfl rfl ?_; first | refine ⟨_, Loads.at (P := Tryz.prog) [] hst0 rfl, ?_⟩ | refine ⟨_, Loads.blk (P := Tryz.prog) hst1 TyS.out (List.mem_append_right _ (.head _)) rfl, ?_⟩ | refine ⟨_, Loads.blk (P := Tryz.prog) hst2 TyS.out (List.mem_append_right _ (.head _)) rfl, ?_⟩ | refine ⟨_, Loads.blk (P := Tryz.prog) hst3 TyS.out (List.mem_append_right _ (.head _)) rfl, ?_⟩) | (go_at_call 24; have HC := put_any hst1 HG.out ao n c l (fun w h => HA.out w (St.sub h (List.sublist_cons_self _ _))) HN.out bo bn bc bs (GB.more (P := [_]) HB.out) (by omega); rw [H1.out] at HC; refine HC.mono ?_; clear HC; rintro _ w2 ⟨x2, rfl, h4⟩; have hst2 := h4; clear h4 hst1) | (go_at_call 26; have HC := mflush_any hst2 HG2.out hN; rw [H2.out] at HC; refine HC.mono ?_; clear HC; rintro _ w3 ⟨x3, rfl, h4⟩; have hst3 : St w0 M w3 (mP gm ga x3 (m.withA A2) ++ _) := h4; clear h4 hst2))
  go_ret
  exact ⟨x3, rfl, sub_x hst3⟩
theorem gets_any {w0 w : World} {M : List Nat} {R : List HA} {gm ga : Nat} {x : GA} {m : MV} {N : Nat} (hS : St w0 M w (mP gm ga x m ++ R)) (hg : MGood m N) (ao : Option Addr) (n c : Nat) (l : List (Int × Int)) (b v : Int) (S : List UInt8) (hL : L32 S) (hA : ∀ w, St w0 M w R → Rd w (.slice ao n c) 2 n (addrsV l)) (hn : l.length = n) (bo : Option Addr) (bn bc : Nat) (bs : List UInt8) (hb : GB w0 M R (.slice bo bn bc) bn bs) (hN : N + 2 * n ≤ 900000) (hbn : bn ≤ 100000) (m' : MV) (h1 : m.get (PVof ao n c l b v S) = ⟨0, bs, m'⟩) :
    Calls Tryz.prog 25 #[PM gm, .agg (ptrCells (.slice ao n c) b v S).toArray, .slice bo bn bc] w fun e w' => ∃ x', e = .returned (.bool true) ∧ St w0 M w' (mP gm ga x' m' ++ R) := by
  have hst := hS
  have HG := hid hg
  have HL := hid hL
  have HN := hid hn
  have HA := hid hA
  have HB := hid hb
  have H1 := hid h1
  clear hS hg hL hn hA hb h1
  unfold PM
  go_enter Tryz.func25, Tryz.ntmps25
  go_wp2_with (first | go_big_skip | go_big_guard | (refine wl_boxA hst rfl rfl rfl ?_; intro g3 w1 hst0; clear hst; have hst1 : St w0 M w1 (mP gm ga x m ++ (.blk g3 34 (ptrCells (.slice ao n c) b v S) :: R)) := St.behind (A := mP gm ga x m) hst0; clear hst0) | (refine wl_loadE rfl rfl rfl ?_; refine ⟨_, Loads.blkA (P := Tryz.prog) (T := 34) (vs := ptrCells (.slice ao n c) b v S) hst1 (by rw [ptr_len HL.out]; exact TyA.out) (List.mem_append_right _ (.head _)) (ptr_all _ _ _ _), ?_⟩) | (go_at_call 22; have HC := get_any hst1 HG.out ao n c l b v S HL.out HN.out (fun w h => HA.out w (St.sub h (List.sublist_cons_self _ _))) hN; rw [H1.out] at HC; refine HC.mono ?_; clear HC; rintro _ w2 ⟨u, x2, rfl, h4⟩; obtain ⟨ua, uc, rfl⟩ := St.rowPSlice [] h4; have hst2 := h4; clear h4 hst1) | (go_at_call 18; refine (sameBytes_any _ _ _ _ bs bs _ (Rd.rowP hst2 (.head _)) (HB.out.rd _ (St.sub hst2 (.cons _ ((List.sublist_cons_self _ _).trans (List.sublist_append_right _ _)))))).mono ?_; rw [beq_self_eq_true]; rintro _ w3 ⟨rfl, h4⟩; have hst3 := St.call0 hst2 h4; clear h4 hst2))
  go_ret
  exact ⟨x2, rfl, sub_x (St.tl hst3)⟩
end
end Go.Proofs.YtmdfbdfijnmhkaaGreat
namespace Go.Proofs.YtmdfbdfijnmhkaaGreat
set_option linter.unusedVariables false
set_option linter.unusedSimpArgs false
open Go.RowKit Hp
set_option maxRecDepth 100000
set_option maxHeartbeats 4000000
def dk (g : Nat) (s : List UInt8) : DV := ⟨g, [sect 0, sect 0, sect 0, sect 0, sect 0, s, sect 0, sect 0], false, false, false, 0, 0⟩
def AK (p q r : Nat) (a b c : List UInt8) (L : List LW) (st : Int) : AR := ⟨[dk p a, dk q b, dk r c], L, -1, false, st⟩
theorem newA_ak (p q r : Nat) : newA 8 [p, q, r] = AK p q r (sect 0) (sect 0) (sect 0) [] 0 := by kernel_rfl
theorem ak_rE0 (p q r : Nat) (a b c : List UInt8) (L : List LW) (st : Int) : (AK p q r a b c L st).readE 0 5 = 0 := by kernel_rfl
theorem ak_rd0 (p q r : Nat) (a b c : List UInt8) (L : List LW) (st : Int) : (AK p q r a b c L st).read 0 5 = AK p q r a b c L st := by kernel_rfl
theorem ak_rB0 (p q r : Nat) (a b c : List UInt8) (L : List LW) (st : Int) : (AK p q r a b c L st).readB 0 5 = L.foldl (pickW 0 5) a := by kernel_rfl
theorem ak_rE1 (p q r : Nat) (a b c : List UInt8) (L : List LW) (st : Int) : (AK p q r a b c L st).readE 1 5 = 0 := by kernel_rfl
theorem ak_rd1 (p q r : Nat) (a b c : List UInt8) (L : List LW) (st : Int) : (AK p q r a b c L st).read 1 5 = AK p q r a b c L st := by kernel_rfl
theorem ak_rB1 (p q r : Nat) (a b c : List UInt8) (L : List LW) (st : Int) : (AK p q r a b c L st).readB 1 5 = L.foldl (pickW 1 5) b := by kernel_rfl
theorem ak_put1 (p q r : Nat) (a b c : List UInt8) (st : Int) (e : List ER) (x : UInt8) : (⟨AK p q r a b c [] st, e⟩ : MV).put (onDevs 1) (sect x) = ⟨0, 1, AK p q r a b c [⟨0, 5, sect x⟩] (st + 1)⟩ := by kernel_rfl
theorem ak_flush1 (p q r : Nat) (a b c : List UInt8) (st : Int) (e : List ER) (x : UInt8) : (⟨AK p q r a b c [⟨0, 5, sect x⟩] st, e⟩ : MV).flush = ⟨0, 3, AK p q r (sect x) b c [] (st + 1 + 1 + 1)⟩ := by kernel_rfl
theorem ak_ask2 (p q r : Nat) (a b c : List UInt8) (L : List LW) (st : Int) (e : List ER) (ao : Option Addr) (cc : Nat) (S : List UInt8) : (⟨AK p q r a b c L st, e⟩ : MV).askE (PVof ao 2 cc (onDevs 2) 1 0 S) = 0 := by kernel_rfl
theorem ak_put2 (p q r : Nat) (a b c : List UInt8) (st : Int) (e : List ER) (x : UInt8) : (⟨AK p q r a b c [] st, e⟩ : MV).put (onDevs 2) (sect x) = ⟨0, 2, AK p q r a b c [⟨0, 5, sect x⟩, ⟨1, 5, sect x⟩] (st + 1 + 1)⟩ := by kernel_rfl
theorem ak_flush2 (p q r : Nat) (a b c : List UInt8) (st : Int) (e : List ER) (x : UInt8) : (⟨AK p q r a b c [⟨0, 5, sect x⟩, ⟨1, 5, sect x⟩] st, e⟩ : MV).flush = ⟨0, 3, AK p q r (sect x) (sect x) c [] (st + 1 + 1 + 1)⟩ := by kernel_rfl
theorem ak_put3 (p q r : Nat) (a b c : List UInt8) (st : Int) (e : List ER) (x : UInt8) : (⟨AK p q r a b c [] st, e⟩ : MV).put (onDevs 3) (sect x) = ⟨0, 3, AK p q r a b c [⟨0, 5, sect x⟩, ⟨1, 5, sect x⟩, ⟨2, 5, sect x⟩] (st + 1 + 1 + 1)⟩ := by kernel_rfl
theorem ak_flush3 (p q r : Nat) (a b c : List UInt8) (st : Int) (e : List ER) (x : UInt8) : (⟨AK p q r a b c [⟨0, 5, sect x⟩, ⟨1, 5, sect x⟩, ⟨2, 5, sect x⟩] st, e⟩ : MV).flush = ⟨0, 3, AK p q r (sect x) (sect x) (sect x) [] (st + 1 + 1 + 1)⟩ := by kernel_rfl
theorem kind_good {m : MV} {dev pl : Int} {S : List UInt8} (h1 : m.a.readE dev pl = 0) (h2 : sumB (m.a.readB dev pl) = S) : m.kind dev pl S = 0 := by
  unfold MV.kind
  rw [h1, if_neg (by decide), if_neg (by simp), if_pos h2]
theorem kind_ill {m : MV} {dev pl : Int} {S : List UInt8} (h1 : m.a.readE dev pl = 0) (h2 : sumB (m.a.readB dev pl) ≠ S) : m.kind dev pl S = 1 := by
  unfold MV.kind
  rw [h1, if_neg (by decide), if_neg (by simp), if_neg h2]
theorem lookd_good {m : MV} {dev pl : Int} {S : List UInt8} (h1 : m.a.readE dev pl = 0) (h2 : sumB (m.a.readB dev pl) = S) (h3 : m.a.read dev pl = m.a) : m.looked dev pl S = m := by
  unfold MV.looked
  rw [kind_good h1 h2, h1, if_neg (by decide), if_neg (by decide), h3]
theorem lookd_ill {m : MV} {dev pl : Int} {S : List UInt8} (h1 : m.a.readE dev pl = 0) (h2 : sumB (m.a.readB dev pl) ≠ S) (h3 : m.a.read dev pl = m.a) : m.looked dev pl S = ⟨m.a, m.e.modify dev.toNat fSm⟩ := by
  unfold MV.looked
  rw [kind_ill h1 h2, h1, if_neg (by decide), if_pos rfl, h3]
theorem found_hit {m : MV} {S : List UInt8} {but : Int} {x : Int × Int} {l ill : List (Int × Int)} (hb : x.1 ≠ but) (h1 : m.a.readE x.1 x.2 = 0) (h2 : sumB (m.a.readB x.1 x.2) = S) (h3 : m.a.read x.1 x.2 = m.a) : found S but m (x :: l) ill = ⟨0, m.a.readB x.1 x.2, ill, m⟩ := by
  conv => lhs; unfold found
  rw [if_neg hb, if_pos (kind_good h1 h2), lookd_good h1 h2 h3]
  unfold MV.lookB
  rw [if_pos (kind_good h1 h2)]
theorem found_miss {m : MV} {S : List UInt8} {but : Int} {x : Int × Int} {l ill : List (Int × Int)} (hb : x.1 ≠ but) (h1 : m.a.readE x.1 x.2 = 0) (h2 : sumB (m.a.readB x.1 x.2) ≠ S) (h3 : m.a.read x.1 x.2 = m.a) : found S but m (x :: l) ill = found S but ⟨m.a, m.e.modify x.1.toNat fSm⟩ l (ill ++ [x]) := by
  conv => lhs; unfold found
  rw [if_neg hb, kind_ill h1 h2, if_neg (by decide), if_pos rfl, lookd_ill h1 h2 h3]
theorem get_eq {m m' : MV} {P : PV} {B : List UInt8} {ill : List (Int × Int)} (ha : m.askE P = 0) (hf : found P.S (-1) m P.l [] = ⟨0, B, ill, m'⟩) : m.get P = ⟨0, B, m'.heals ill B⟩ := by
  unfold MV.get
  rw [ha, if_neg (by simp), hf, if_neg (by simp)]
def spo (s : List UInt8) (place : Nat) (m : UInt8) : List UInt8 := s.set place (s.getD place 0 ^^^ m)
def W2 (p q r : Nat) : MV := ⟨AK p q r (sect 2) (sect 2) (sect 0) [] 5, zeroE⟩
def W3 (p q r : Nat) : MV := ⟨AK p q r (spo (sect 2) 0 1) (sect 2) (sect 0) [] 5, zeroE⟩
def W4 (p q r : Nat) : MV := ⟨AK p q r (spo (sect 2) 0 1) (sect 2) (sect 0) [⟨0, 5, sect 2⟩] 6, [⟨0, 1, 1⟩, ⟨0, 0, 0⟩, ⟨0, 0, 0⟩, ⟨0, 0, 0⟩, ⟨0, 0, 0⟩, ⟨0, 0, 0⟩, ⟨0, 0, 0⟩, ⟨0, 0, 0⟩]⟩
theorem spo_bad : sumB (spo (sect 2) 0 1) ≠ sumB (sect 2) := by decide +kernel
theorem w2_get (p q r : Nat) (ao : Option Addr) (c : Nat) {S : List UInt8} (hS : sumB (sect 2) = S) : (W2 p q r).get (PVof ao 2 c (onDevs 2) 1 0 S) = ⟨0, sect 2, W2 p q r⟩ :=
  get_eq (ak_ask2 ..) (found_hit (x := (0, 5)) (l := [(1, 5)]) (by decide) (ak_rE0 ..) ((congrArg sumB (show (W2 p q r).a.readB 0 5 = sect 2 from ak_rB0 ..)).trans hS) (ak_rd0 ..))
theorem w2_spoil (p q r : Nat) : (W2 p q r).a.spoil 0 5 0 1 = (W3 p q r).a := by kernel_rfl
theorem w2_spoilE (p q r : Nat) : (W2 p q r).a.spoilE 0 5 0 = 0 := by kernel_rfl
theorem w3_get (p q r : Nat) (ao : Option Addr) (c : Nat) {S : List UInt8} (hS : sumB (sect 2) = S) : (W3 p q r).get (PVof ao 2 c (onDevs 2) 1 0 S) = ⟨0, sect 2, W4 p q r⟩ := by
  have h1 : found S (-1) (W3 p q r) (onDevs 2) [] = ⟨0, sect 2, [(0, 5)], ⟨(W3 p q r).a, (W3 p q r).e.modify 0 fSm⟩⟩ := by
    refine (found_miss (x := (0, 5)) (l := [(1, 5)]) (by decide) (ak_rE0 ..) (by rw [show (W3 p q r).a.readB 0 5 = spo (sect 2) 0 1 from ak_rB0 .., ← hS]; exact spo_bad) (ak_rd0 ..)).trans ?_
    exact found_hit (x := (1, 5)) (l := []) (by decide) (ak_rE1 ..) ((congrArg sumB (show (W3 p q r).a.readB 1 5 = sect 2 from ak_rB1 ..)).trans hS) (ak_rd1 ..)
  refine (get_eq (ak_ask2 ..) h1).trans ?_
  kernel_rfl
theorem w4_rE (p q r : Nat) : (W4 p q r).a.readE 0 5 = 0 := ak_rE0 ..
theorem w4_rB (p q r : Nat) : (W4 p q r).a.readB 0 5 = sect 2 := by kernel_rfl
theorem w4_rd (p q r : Nat) : (W4 p q r).a.read 0 5 = (W4 p q r).a := ak_rd0 ..
theorem w4_e0 (p q r : Nat) : (W4 p q r).errs 0 = ⟨0, 1, 1⟩ := by kernel_rfl
theorem w4_e1 (p q r : Nat) : (W4 p q r).errs 1 = ⟨0, 0, 0⟩ := by kernel_rfl
end Go.Proofs.YtmdfbdfijnmhkaaGreat
namespace Go.Proofs.YtmdfbdfijnmhkaaGreat
set_option linter.unusedVariables false
set_option linter.unusedSimpArgs false
open Go.RowKit
namespace Hp
variable {P : Program}
theorem eqFields_ints {w : World} {q : IntKind} (d : Nat) (l k : List Int) : ∀ (fs : List Field) (s : Nat), (∀ i f, fs[i]? = some f → f.name ≠ "_" ∧ f.offset = s + i ∧ ∃ c, P.underlying f.type = some (.int c)) → l.length = s + fs.length → k.length = s + fs.length →
    (Op.eqFields (d + 1) (intsV q l).toArray (intsV q k).toArray fs).run P w = .ok (l.drop s == k.drop s) w
  | [], s, _, h1, h2 => by
    rw [List.drop_of_length_le (by simp at h1; omega), List.drop_of_length_le (by simp at h2; omega)]
    simp [Op.eqFields]
  | f :: fs, s, hall, h1, h2 => by
    obtain ⟨n1, o1, c, u1⟩ := hall 0 f rfl
    have ih := eqFields_ints (w := w) (q := q) d l k fs (s + 1) (fun i g hg => by
      have := hall (i + 1) g (by simpa using hg)
      rw [show s + 1 + i = s + (i + 1) by omega]; exact this) (by simp at h1; omega) (by simp at h2; omega)
    have hs1 : s < l.length := by simp at h1; omega
    have hs2 : s < k.length := by simp at h2; omega
    have hl : l.drop s = l.getD s 0 :: l.drop (s + 1) := by rw [List.drop_eq_getElem_cons hs1]; simp [List.getD, hs1]
    have hk : k.drop s = k.getD s 0 :: k.drop (s + 1) := by rw [List.drop_eq_getElem_cons hs2]; simp [List.getD, hs2]
    have hp : ∀ u : List Int, s < u.length → (part f.type (intsV q u).toArray s).run P w = .ok (.int q (u.getD s 0)) w := fun u hu =>
      run_part_int u1 (by simp [intsV, List.getD, hu])
    rw [hl, hk]
    simp only [Op.eqFields, n1, ne_eq, not_false_eq_true, if_true, Sem.run_bind, o1, Nat.add_zero, hp l hs1, hp k hs2, Result.andThen_ok, run_equalIn_int w d f.type q c _ _ u1]
    rw [List.cons_beq_cons]
    cases hb : (l.getD s 0 == k.getD s 0)
    · simp
    · simp [ih]
def siok (P : Program) (T : TypeId) (n : Nat) : Bool := match P.underlying T with
  | some (.struct fs) => fs.toList.length == n && ((List.range n).all (fun i => match fs.toList[i]? with
    | some f => f.name != "_" && f.offset == i && (match P.underlying f.type with | some (.int _) => true | _ => false)
    | none => false)) && !(P.stoodInHeld T) && !(P.eqGuardType P.depth T)
  | _ => false
class TySI (P : Program) (T : TypeId) (n : outParam Nat) : Prop where
  out : siok P T n = true
theorem si_spec {T : TypeId} {n : Nat} (h : siok P T n = true) : P.underlying T = some (.struct (P.fieldsOf T)) ∧ (P.fieldsOf T).toList.length = n ∧ (∀ i f, (P.fieldsOf T).toList[i]? = some f → f.name ≠ "_" ∧ f.offset = 0 + i ∧ ∃ c, P.underlying f.type = some (.int c)) ∧ P.stoodInHeld T = false ∧ P.eqGuardType P.depth T = false := by
  unfold siok at h
  cases hu : P.underlying T with
  | none => simp [hu] at h
  | some d =>
    cases d with
    | struct fs =>
      have hf : P.fieldsOf T = fs := by simp [Program.fieldsOf, hu]
      simp only [hu] at h
      rw [hf]
      simp only [Bool.and_eq_true, beq_iff_eq, Bool.not_eq_true'] at h
      obtain ⟨⟨⟨h1, h2⟩, h3⟩, h4⟩ := h
      refine ⟨rfl, h1, fun i f hi => ?_, h3, h4⟩
      have hlt := (List.getElem?_eq_some_iff.1 hi).1
      have := List.all_eq_true.1 h2 i (by rw [List.mem_range]; omega)
      rw [hi] at this
      simp only [Bool.and_eq_true, bne_iff_ne, ne_eq, beq_iff_eq] at this
      refine ⟨this.1.1, by omega, ?_⟩
      cases hk : P.underlying f.type with
      | none => simp [hk] at this
      | some q => cases q <;> first | (simp [hk] at this; done) | exact ⟨_, rfl⟩
    | _ => simp [hu] at h
theorem run_eqlSI {w : World} {T : TypeId} {n : Nat} {q : IntKind} [h : TySI P T n] (l k : List Int) (hl : l.length = n) (hk : k.length = n) :
    (binOp .eql T (.agg (intsV q l).toArray) (.agg (intsV q k).toArray)).run P w = .ok (.bool (l == k)) w := by
  obtain ⟨hu, h1, h2, h3, _⟩ := si_spec h.out
  rw [run_eql_struct, show (10000 : Nat) = 9999 + 1 from rfl, run_equalIn_struct w 9999 T _ _ hu h3, eqFields_ints 9998 l k _ 0 h2 (by omega) (by omega)]
  rfl
theorem run_neqSI {w : World} {T : TypeId} {n : Nat} {q : IntKind} [h : TySI P T n] (l k : List Int) (hl : l.length = n) (hk : k.length = n) :
    (binOp .neq T (.agg (intsV q l).toArray) (.agg (intsV q k).toArray)).run P w = .ok (.bool (!(l == k))) w := by
  obtain ⟨hu, h1, h2, h3, _⟩ := si_spec h.out
  rw [run_neq_struct, show (10000 : Nat) = 9999 + 1 from rfl, run_equalIn_struct w 9999 T _ _ hu h3, eqFields_ints 9998 l k _ 0 h2 (by omega) (by omega)]
  rfl
theorem run_guardSI {w : World} {T : TypeId} {n : Nat} [h : TySI P T n] (op : BinOp) (x y : Operand) (xs ys : Array Value) : (eqGuard op T x y (.agg xs) (.agg ys)).run P w = .ok () w := by
  obtain ⟨hu, h1, h2, h3, hg⟩ := si_spec h.out
  unfold eqGuard
  cases op <;> simp [Sem.run_bind, hg]
end Hp
end Go.Proofs.YtmdfbdfijnmhkaaGreat
namespace Go.Proofs.YtmdfbdfijnmhkaaGreat
set_option linter.unusedVariables false
set_option linter.unusedSimpArgs false
open Go.RowKit Hp
attribute [local irreducible] Go.Calls Go.wpList
set_option maxRecDepth 100000
set_option maxHeartbeats 8000000
theorem gb_sect {w0 : World} {M : List Nat} {R : List HA} {g : Nat} {b : UInt8} (hm : HA.blk g 5 (bytesV (sect b)) ∈ R) : GB w0 M R (.slice (some ⟨g, 0, none⟩) 256 256) 256 (sect b) :=
  GB.blk hm (sect_len b) (List.take_of_length_le (by rw [sect_len]; exact Nat.le_refl _)) (Nat.le_refl _) (by decide)
theorem dk_fine {g : Nat} {s : List UInt8} (h : s.length = 256) : (dk g s).Fine 8 := by
  refine ⟨rfl, fun t ht => ?_, (fun h => by cases h), Int.le_refl _, by show (0 : Int) ≤ _; decide⟩
  have h0 := sect_len 0
  simp only [dk, List.mem_cons, List.not_mem_nil, or_false] at ht
  rcases ht with rfl | rfl | rfl | rfl | rfl | rfl | rfl | rfl <;> assumption
theorem ak_ok {p q r : Nat} {a b c : List UInt8} {L : List LW} {st : Int} (ha : a.length = 256) (hb : b.length = 256) (hc : c.length = 256) (hL : ∀ w ∈ L, w.dev < 3 ∧ w.pl < 8 ∧ w.b.length = 256) : (AK p q r a b c L st).Ok := by
  refine ⟨(fun h => by cases h), by show 3 ≤ 8; decide, by show 8 ≤ 4096; decide, fun d hd => ?_, hL, ⟨Int.le_refl _, by show (-1 : Int) ≤ _; decide⟩⟩
  simp only [AK, List.mem_cons, List.not_mem_nil, or_false] at hd
  rcases hd with rfl | rfl | rfl
  · exact dk_fine ha
  · exact dk_fine hb
  · exact dk_fine hc
theorem ak_good {p q r : Nat} {a b c : List UInt8} {L : List LW} {st : Int} {e : List ER} {N : Nat} (ha : a.length = 256) (hb : b.length = 256) (hc : c.length = 256) (hL : ∀ w ∈ L, w.dev < 3 ∧ w.pl < 8 ∧ w.b.length = 256) (hs : 0 ≤ st ∧ st ≤ (N : Int)) (hl : L.length ≤ N) (he : e.length = 8) (hn : ∀ x ∈ e, 0 ≤ x.rd ∧ x.rd ≤ N ∧ 0 ≤ x.sm ∧ x.sm ≤ N ∧ 0 ≤ x.he ∧ x.he ≤ N) : MGood ⟨AK p q r a b c L st, e⟩ N :=
  ⟨⟨ak_ok ha hb hc hL, by show 8 ≤ 8; decide, hs, hl⟩, he, hn⟩
theorem spo_len {s : List UInt8} {k : Nat} {m : UInt8} (h : s.length = 256) : (spo s k m).length = 256 := by unfold spo; rw [List.length_set, h]
theorem zeroE_ok (N : Nat) : ∀ x ∈ zeroE, 0 ≤ x.rd ∧ x.rd ≤ N ∧ 0 ≤ x.sm ∧ x.sm ≤ N ∧ 0 ≤ x.he ∧ x.he ≤ N := by
  intro x hx
  rw [List.eq_of_mem_replicate hx]
  exact ⟨Int.le_refl _, Int.natCast_nonneg _, Int.le_refl _, Int.natCast_nonneg _, Int.le_refl _, Int.natCast_nonneg _⟩
def W0 (p q r : Nat) : MV := ⟨AK p q r (sect 0) (sect 0) (sect 0) [] 0, zeroE⟩
theorem w0_good (p q r : Nat) : MGood (W0 p q r) 10 := ak_good (sect_len _) (sect_len _) (sect_len _) (by simp) (by decide) (by decide) rfl (zeroE_ok _)
theorem w2_good (p q r : Nat) : MGood (W2 p q r) 10 := ak_good (sect_len _) (sect_len _) (sect_len _) (by simp) (by decide) (by decide) rfl (zeroE_ok _)
theorem w3_good (p q r : Nat) : MGood (W3 p q r) 10 := ak_good (spo_len (sect_len _)) (sect_len _) (sect_len _) (by simp) (by decide) (by decide) rfl (zeroE_ok _)
theorem w4_good (p q r : Nat) : MGood (W4 p q r) 10 := ak_good (spo_len (sect_len _)) (sect_len _) (sect_len _) (by intro w hw; rw [List.mem_singleton.1 hw]; exact ⟨by decide, by decide, sect_len _⟩) (by decide) (by decide) rfl (by
  intro x hx
  simp only [List.mem_cons, List.not_mem_nil, or_false] at hx
  rcases hx with rfl | rfl | rfl | rfl | rfl | rfl | rfl | rfl <;> decide)
instance sI16e : TySI Tryz.prog 71 3 := ⟨by kernel_rfl⟩
theorem eqlErr (a b c a' b' c' : Int) (w : World) : (binOp .eql 71 (.agg #[.int .i64 a, .int .i64 b, .int .i64 c]) (.agg #[.int .i64 a', .int .i64 b', .int .i64 c'])).run Tryz.prog w = .ok (.bool (([a, b, c] : List Int) == [a', b', c'])) w := run_eqlSI (P := Tryz.prog) (T := 71) (q := .i64) [a, b, c] [a', b', c'] rfl rfl
theorem guardErr (op : BinOp) (x y : Operand) (xs ys : Array Value) (w : World) : (eqGuard op 71 x y (.agg xs) (.agg ys)).run Tryz.prog w = .ok () w := run_guardSI op x y xs ys
section
attribute [local go_sem ↓] loadedPt storedPt eqlErr guardErr
theorem awake16_any (w : World) : Calls Tryz.prog 8 #[] w fun e w' => e = .returned (.bool true) ∧ St w [] w' [] := by
  have hst := St.refl w
  obtain ⟨S, hS⟩ : ∃ S, S = sumB (sect 2) := ⟨_, rfl⟩
  have HS := hid hS.symm
  have HL := hid (show L32 S from by rw [hS]; exact length_bytesS _)
  clear hS
  go_enter Tryz.func8, Tryz.ntmps8
  go_wp2_with (first | go_big_skip | go_big_guard | (go_at_call 9; refine (made16_any _).mono ?_; rintro _ _ ⟨gm, ga, x0, gs, rfl, hg, h4⟩; obtain ⟨p, q, r, rfl⟩ : ∃ p q r, gs = [p, q, r] := (match gs, hg with | [p, q, r], _ => ⟨p, q, r, rfl⟩); have hm0 : St w [] _ (mP gm ga x0 (W0 p q r) ++ []) := (by have h5 := St.call hst h4; rw [newA_ak] at h5; exact h5); clear h4 hg hst; unfold PM))
  go_wp2_with (first | go_big_skip | go_big_guard | (go_at_call 11; refine (of16_any 2 _).mono ?_; rintro _ _ ⟨gb, rfl, h4⟩; have hm1 := St.behind (A := (mP gm ga x0 (W0 p q r))) (St.call hm0 h4); clear h4 hm0) | (go_at_call 12; have HC := points_any hm1 (some ⟨gb, 0, none⟩) 256 256 (sect 2) (gb_sect (List.mem_append_right _ (.head _))).rd (sect_len _) (by decide) 2 (by omega); rw [HS.out] at HC; refine HC.mono ?_; clear HC; rintro _ _ ⟨sa, sc, rfl, h4⟩; have hm2 := St.behind (A := (mP gm ga x0 (W0 p q r))) h4; clear h4 hm1) | (refine wl_alloc (T := 34) hm2 rfl rfl ?_; intro gp _ hm3; clear hm2) | (refine wl_storeA [] hm3 rfl rfl rfl rfl (ptr_len HL.out _ _ _) (ptr_ones _ _ _ _ _ _) (ptr_len L32.nones _ _ _) ?_; intro _ hm4; clear hm3; have hm5 := St.behind (A := (mP gm ga x0 (W0 p q r))) hm4; clear hm4))
  have hX := hm5.drew
  clear hm5
  refine wp_region_held_drew (S := (fun w' => (loadVarH 34 ⟨gp, 0, none⟩).run Tryz.prog w' = .ok (.agg (List.toArray (ptrCells (.slice sa 2 sc) 1 0 S))) w')) (by kernel_rfl) (by exact Loads.blkA (P := Tryz.prog) (T := 34) (vs := (ptrCells (.slice sa 2 sc) 1 0 S)) hX (by rw [ptr_len HL.out]; exact TyA.out) (List.mem_append_right _ (.head _)) (ptr_all _ _ _ _)) (fun hHeld => ?_)
  refine wpAnyH_take (i := 0) (oi := ⟨some 18, _, _, _, _, _⟩) (v := ?_) rfl (by kernel_rfl) (by kernel_rfl) (by kernel_rfl) (fun _ _ _ h => h) (Or.inl ⟨by rfl, ?_⟩) (by assumption) ?_
  rotate_left
  · intro w hSw; (try dsimp only at hSw); go_simp; try with_reducible rfl
  (try simp only [Act.put, List.setIfInBounds_toArray, List.set_cons_zero, List.set_cons_succ])
  refine wpAnyH_take (i := 1) (oi := ⟨some 19, _, _, _, _, _⟩) (v := ?_) rfl (by kernel_rfl) (by kernel_rfl) (by kernel_rfl) (fun _ _ _ h => h) (Or.inl ⟨by rfl, ?_⟩) (by assumption) ?_
  rotate_left
  · intro w hSw; (try dsimp only at hSw); go_simp; try with_reducible rfl
  (try simp only [Act.put, List.setIfInBounds_toArray, List.set_cons_zero, List.set_cons_succ])
  refine wpAnyH_ready (rs := [2]) (by kernel_rfl) (by simp) ?_
  refine (AllReadyH.cons (o := ⟨some 20, _, _, _, _, _⟩) rfl (fun K hK => ?_) AllReadyH.nil)
  rw [if_pos (by rfl)]
  go_simp
  go_at_call 11
  refine (of16_any 2 _).mono ?_
  rintro _ _ ⟨g1, rfl, h4⟩
  have hm6 := St.behind (A := (mP gm ga x0 (W0 p q r))) (St.call hX h4)
  clear h4 hX
  refine hK.out _ _ ?_ (fun hHeld => ?_)
  · exact Loads.blkA (P := Tryz.prog) (T := 34) (vs := (ptrCells (.slice sa 2 sc) 1 0 S)) hm6 (by rw [ptr_len HL.out]; exact TyA.out) (List.mem_append_right _ (.tail _ (.head _))) (ptr_all _ _ _ _)
  clear hK K
  (try simp only [Act.put, List.setIfInBounds_toArray, List.set_cons_zero, List.set_cons_succ])
  refine wpAnyH_ready (rs := [3]) (by kernel_rfl) (by simp) ?_
  refine (AllReadyH.cons (o := ⟨some 21, _, _, _, _, _⟩) rfl (fun K hK => ?_) AllReadyH.nil)
  rw [if_pos (by rfl)]
  go_simp
  go_at_call 13
  have HC := puts_any hm6 (w0_good p q r) sa 2 sc (onDevs 2) 1 0 S HL.out (fun _ h => Rd.row h (.tail _ (.tail _ (.head _)))) (onDevs_len _) (some ⟨g1, 0, none⟩) 256 256 _ (gb_sect (.head _)) (by omega) _ _ (ak_put2 ..) (ak_flush2 ..)
  refine HC.mono ?_
  clear HC
  rintro _ _ ⟨y7, rfl, h4⟩
  have hm8 : St _ _ _ ((mP gm ga y7 (W2 p q r)) ++ _) := h4
  clear h4 hm6
  refine hK.out _ _ ?_ (fun hHeld => ?_)
  · exact Loads.blkA (P := Tryz.prog) (T := 34) (vs := (ptrCells (.slice sa 2 sc) 1 0 S)) hm8 (by rw [ptr_len HL.out]; exact TyA.out) (List.mem_append_right _ (.tail _ (.head _))) (ptr_all _ _ _ _)
  clear hK K
  (try simp only [Act.put, List.setIfInBounds_toArray, List.set_cons_zero, List.set_cons_succ])
  refine wpAnyH_take (i := 4) (oi := ⟨some 22, _, _, _, _, _⟩) (v := ?_) rfl (by kernel_rfl) (by kernel_rfl) (by kernel_rfl) (fun _ _ _ h => h) (Or.inl ⟨by rfl, ?_⟩) (by assumption) ?_
  rotate_left
  · intro w hSw; (try dsimp only at hSw); go_simp; try with_reducible rfl
  (try simp only [Act.put, List.setIfInBounds_toArray, List.set_cons_zero, List.set_cons_succ])
  refine wpAnyH_take (i := 5) (oi := ⟨some 23, _, _, _, _, _⟩) (v := ?_) rfl (by kernel_rfl) (by kernel_rfl) (by kernel_rfl) (fun _ _ _ h => h) (Or.inl ⟨by rfl, ?_⟩) (by assumption) ?_
  rotate_left
  · intro w hSw; (try dsimp only at hSw); go_simp; try with_reducible rfl
  (try simp only [Act.put, List.setIfInBounds_toArray, List.set_cons_zero, List.set_cons_succ])
  refine wpAnyH_take (i := 6) (oi := ⟨some 24, _, _, _, _, _⟩) (v := ?_) rfl (by kernel_rfl) (by kernel_rfl) (by kernel_rfl) (fun _ _ _ h => h) (Or.inl ⟨by rfl, ?_⟩) (by assumption) ?_
  rotate_left
  · intro w hSw; (try dsimp only at hSw); go_simp; try with_reducible rfl
  (try simp only [Act.put, List.setIfInBounds_toArray, List.set_cons_zero, List.set_cons_succ])
  refine wpAnyH_take (i := 7) (oi := ⟨some 25, _, _, _, _, _⟩) (v := ?_) rfl (by kernel_rfl) (by kernel_rfl) (by kernel_rfl) (fun _ _ _ h => h) (Or.inl ⟨by rfl, ?_⟩) (by assumption) ?_
  rotate_left
  · intro w hSw; (try dsimp only at hSw); go_simp; try with_reducible rfl
  (try simp only [Act.put, List.setIfInBounds_toArray, List.set_cons_zero, List.set_cons_succ])
  refine wpAnyH_ready (rs := [8]) (by kernel_rfl) (by simp) ?_
  refine (AllReadyH.cons (o := ⟨some 26, _, _, _, _, _⟩) rfl (fun K hK => ?_) AllReadyH.nil)
  rw [if_pos (by rfl)]
  go_simp
  go_at_call 11
  refine (of16_any 2 _).mono ?_
  rintro _ _ ⟨g2, rfl, h4⟩
  have hm9 := St.behind (A := (mP gm ga y7 (W2 p q r))) (St.call hm8 h4)
  clear h4 hm8
  refine hK.out _ _ ?_ (fun hHeld => ?_)
  · exact Loads.blkA (P := Tryz.prog) (T := 34) (vs := (ptrCells (.slice sa 2 sc) 1 0 S)) hm9 (by rw [ptr_len HL.out]; exact TyA.out) (List.mem_append_right _ (.tail _ (.tail _ (.head _)))) (ptr_all _ _ _ _)
  clear hK K
  (try simp only [Act.put, List.setIfInBounds_toArray, List.set_cons_zero, List.set_cons_succ])
  refine wpAnyH_ready (rs := [9]) (by kernel_rfl) (by simp) ?_
  refine (AllReadyH.cons (o := ⟨some 27, _, _, _, _, _⟩) rfl (fun K hK => ?_) AllReadyH.nil)
  rw [if_pos (by rfl)]
  go_simp
  go_at_call 25
  have HC := gets_any hm9 (w2_good p q r) sa 2 sc (onDevs 2) 1 0 S HL.out (fun _ h => Rd.row h (.tail _ (.tail _ (.tail _ (.head _))))) (onDevs_len _) (some ⟨g2, 0, none⟩) 256 256 _ (gb_sect (.head _)) (by omega) (by decide) _ (w2_get p q r _ _ HS.out)
  refine HC.mono ?_
  clear HC
  rintro _ _ ⟨y10, rfl, h4⟩
  have hm11 : St _ _ _ ((mP gm ga y10 (W2 p q r)) ++ _) := h4
  clear h4 hm9
  refine hK.out _ _ ?_ (fun hHeld => ?_)
  · exact Loads.blkA (P := Tryz.prog) (T := 34) (vs := (ptrCells (.slice sa 2 sc) 1 0 S)) hm11 (by rw [ptr_len HL.out]; exact TyA.out) (List.mem_append_right _ (.tail _ (.tail _ (.head _)))) (ptr_all _ _ _ _)
  clear hK K
  (try simp only [Act.put, List.setIfInBounds_toArray, List.set_cons_zero, List.set_cons_succ])
  refine wpAnyH_take (i := 10) (oi := ⟨some 28, _, _, _, _, _⟩) (v := ?_) rfl (by kernel_rfl) (by kernel_rfl) (by kernel_rfl) (fun _ _ _ h => h) (Or.inl ⟨by rfl, ?_⟩) (by assumption) ?_
  rotate_left
  · intro w hSw; (try dsimp only at hSw); go_simp; try with_reducible rfl
  (try simp only [Act.put, List.setIfInBounds_toArray, List.set_cons_zero, List.set_cons_succ])
  refine wpAnyH_take (i := 11) (oi := ⟨some 29, _, _, _, _, _⟩) (v := ?_) rfl (by kernel_rfl) (by kernel_rfl) (by kernel_rfl) (fun _ _ _ h => h) (Or.inl ⟨by rfl, ?_⟩) (by assumption) ?_
  rotate_left
  · intro w hSw; (try dsimp only at hSw); go_simp; try with_reducible rfl
  (try simp only [Act.put, List.setIfInBounds_toArray, List.set_cons_zero, List.set_cons_succ])
  refine wpAnyH_take (i := 12) (oi := ⟨some 30, _, _, _, _, _⟩) (v := ?_) rfl (by kernel_rfl) (by kernel_rfl) (by kernel_rfl) (fun _ _ _ h => h) (Or.inl ⟨by rfl, ?_⟩) (by assumption) ?_
  rotate_left
  · intro w hSw; (try dsimp only at hSw); go_simp; try with_reducible rfl
  (try simp only [Act.put, List.setIfInBounds_toArray, List.set_cons_zero, List.set_cons_succ])
  refine wpAnyH_take (i := 13) (oi := ⟨some 31, _, _, _, _, _⟩) (v := ?_) rfl (by kernel_rfl) (by kernel_rfl) (by kernel_rfl) (fun _ _ _ h => h) (Or.inl ⟨by rfl, ?_⟩) (by assumption) ?_
  rotate_left
  · intro w hSw; (try dsimp only at hSw); go_simp; try with_reducible rfl
  (try simp only [Act.put, List.setIfInBounds_toArray, List.set_cons_zero, List.set_cons_succ])
  refine wpAnyH_ready (rs := [14]) (by kernel_rfl) (by simp) ?_
  refine (AllReadyH.cons (o := ⟨some 32, _, _, _, _, _⟩) rfl (fun K hK => ?_) AllReadyH.nil)
  rw [if_pos (by rfl)]
  go_simp
  go_at_call 35
  have HC := spoilM_any (mid_in (P := [_]) (Bs := []) hm11) (w2_good p q r).sc.ok 0 5 0 1
  rw [w2_spoil, w2_spoilE] at HC
  refine HC.mono ?_
  clear HC
  rintro _ _ ⟨rfl, xs, h4⟩
  have hm12 : St _ _ _ ((mP gm ga xs (W3 p q r)) ++ _) := mid_out (P := [_]) (Bs := []) hm11 h4
  clear h4 hm11
  refine hK.out _ _ ?_ (fun hHeld => ?_)
  · exact Loads.blkA (P := Tryz.prog) (T := 34) (vs := (ptrCells (.slice sa 2 sc) 1 0 S)) hm12 (by rw [ptr_len HL.out]; exact TyA.out) (List.mem_append_right _ (.tail _ (.tail _ (.head _)))) (ptr_all _ _ _ _)
  clear hK K
  (try simp only [Act.put, List.setIfInBounds_toArray, List.set_cons_zero, List.set_cons_succ])
  refine wpAnyH_take (i := 15) (oi := ⟨some 33, _, _, _, _, _⟩) (v := ?_) rfl (by kernel_rfl) (by kernel_rfl) (by kernel_rfl) (fun _ _ _ h => h) (Or.inl ⟨by rfl, ?_⟩) (by assumption) ?_
  rotate_left
  · intro w hSw; (try dsimp only at hSw); go_simp; try with_reducible rfl
  (try simp only [Act.put, List.setIfInBounds_toArray, List.set_cons_zero, List.set_cons_succ])
  refine wpAnyH_take (i := 16) (oi := ⟨some 34, _, _, _, _, _⟩) (v := ?_) rfl (by kernel_rfl) (by kernel_rfl) (by kernel_rfl) (fun _ _ _ h => h) (Or.inl ⟨by rfl, ?_⟩) (by assumption) ?_
  rotate_left
  · intro w hSw; (try dsimp only at hSw); go_simp; try with_reducible rfl
  (try simp only [Act.put, List.setIfInBounds_toArray, List.set_cons_zero, List.set_cons_succ])
  refine wpAnyH_take (i := 17) (oi := ⟨some 35, _, _, _, _, _⟩) (v := ?_) rfl (by kernel_rfl) (by kernel_rfl) (by kernel_rfl) (fun _ _ _ h => h) (Or.inl ⟨by rfl, ?_⟩) (by assumption) ?_
  rotate_left
  · intro w hSw; (try dsimp only at hSw); go_simp; try with_reducible rfl
  (try simp only [Act.put, List.setIfInBounds_toArray, List.set_cons_zero, List.set_cons_succ])
  refine wpAnyH_take (i := 18) (oi := ⟨some 36, _, _, _, _, _⟩) (v := ?_) rfl (by kernel_rfl) (by kernel_rfl) (by kernel_rfl) (fun _ _ _ h => h) (Or.inl ⟨by rfl, ?_⟩) (by assumption) ?_
  rotate_left
  · intro w hSw; (try dsimp only at hSw); go_simp; try with_reducible rfl
  (try simp only [Act.put, List.setIfInBounds_toArray, List.set_cons_zero, List.set_cons_succ])
  refine wpAnyH_take (i := 19) (oi := ⟨some 37, _, _, _, _, _⟩) (v := ?_) rfl (by kernel_rfl) (by kernel_rfl) (by kernel_rfl) (fun _ _ _ h => h) (Or.inl ⟨by rfl, ?_⟩) (by assumption) ?_
  rotate_left
  · intro w hSw; (try dsimp only at hSw); go_simp; try with_reducible rfl
  (try simp only [Act.put, List.setIfInBounds_toArray, List.set_cons_zero, List.set_cons_succ])
  refine wpAnyH_ready (rs := [20]) (by kernel_rfl) (by simp) ?_
  refine (AllReadyH.cons (o := ⟨some 38, _, _, _, _, _⟩) rfl (fun K hK => ?_) AllReadyH.nil)
  rw [if_pos (by rfl)]
  go_simp
  go_at_call 11
  refine (of16_any 2 _).mono ?_
  rintro _ _ ⟨g3, rfl, h4⟩
  have hm13 := St.behind (A := (mP gm ga xs (W3 p q r))) (St.call hm12 h4)
  clear h4 hm12
  refine hK.out _ _ ?_ (fun hHeld => ?_)
  · exact Loads.blkA (P := Tryz.prog) (T := 34) (vs := (ptrCells (.slice sa 2 sc) 1 0 S)) hm13 (by rw [ptr_len HL.out]; exact TyA.out) (List.mem_append_right _ (.tail _ (.tail _ (.tail _ (.head _))))) (ptr_all _ _ _ _)
  clear hK K
  (try simp only [Act.put, List.setIfInBounds_toArray, List.set_cons_zero, List.set_cons_succ])
  refine wpAnyH_ready (rs := [21]) (by kernel_rfl) (by simp) ?_
  refine (AllReadyH.cons (o := ⟨some 39, _, _, _, _, _⟩) rfl (fun K hK => ?_) AllReadyH.nil)
  rw [if_pos (by rfl)]
  go_simp
  go_at_call 25
  have HC := gets_any hm13 (w3_good p q r) sa 2 sc (onDevs 2) 1 0 S HL.out (fun _ h => Rd.row h (.tail _ (.tail _ (.tail _ (.tail _ (.head _)))))) (onDevs_len _) (some ⟨g3, 0, none⟩) 256 256 _ (gb_sect (.head _)) (by omega) (by decide) _ (w3_get p q r _ _ HS.out)
  refine HC.mono ?_
  clear HC
  rintro _ _ ⟨y14, rfl, h4⟩
  have hm15 : St _ _ _ ((mP gm ga y14 (W4 p q r)) ++ _) := h4
  clear h4 hm13
  refine hK.out _ _ ?_ (fun hHeld => ?_)
  · exact Loads.blkA (P := Tryz.prog) (T := 34) (vs := (ptrCells (.slice sa 2 sc) 1 0 S)) hm15 (by rw [ptr_len HL.out]; exact TyA.out) (List.mem_append_right _ (.tail _ (.tail _ (.tail _ (.head _))))) (ptr_all _ _ _ _)
  clear hK K
  (try simp only [Act.put, List.setIfInBounds_toArray, List.set_cons_zero, List.set_cons_succ])
  refine wpAnyH_take (i := 22) (oi := ⟨some 40, _, _, _, _, _⟩) (v := ?_) rfl (by kernel_rfl) (by kernel_rfl) (by kernel_rfl) (fun _ _ _ h => h) (Or.inl ⟨by rfl, ?_⟩) (by assumption) ?_
  rotate_left
  · intro w hSw; (try dsimp only at hSw); go_simp; try with_reducible rfl
  (try simp only [Act.put, List.setIfInBounds_toArray, List.set_cons_zero, List.set_cons_succ])
  refine wpAnyH_take (i := 23) (oi := ⟨some 41, _, _, _, _, _⟩) (v := ?_) rfl (by kernel_rfl) (by kernel_rfl) (by kernel_rfl) (fun _ _ _ h => h) (Or.inl ⟨by rfl, ?_⟩) (by assumption) ?_
  rotate_left
  · intro w hSw; (try dsimp only at hSw); go_simp; try with_reducible rfl
  (try simp only [Act.put, List.setIfInBounds_toArray, List.set_cons_zero, List.set_cons_succ])
  refine wpAnyH_done (by kernel_rfl) ?_ _
  clear hHeld
  go_wp2_with (first | go_big_skip | go_big_guard | (go_at_call 36; have HC := readM_any (mid_in (P := [_]) (Bs := []) hm15) (w4_good p q r).sc.ok (Nat.lt_of_le_of_lt (w4_good p q r).sc.ll (by decide)) 0 5; rw [w4_rE, w4_rB, w4_rd] at HC; refine HC.mono ?_; clear HC; rintro _ _ ⟨u, rfl, h4⟩; have hm16 := St.behind (A := (mP gm ga y14 (W4 p q r))) (mid_outp (Q := [_]) (P := [_]) (Bs := []) hm15 h4); clear h4 hm15) | (go_at_call 11; refine (of16_any 2 _).mono ?_; rintro _ _ ⟨g4, rfl, h4⟩; have hm17 := St.behind (A := (mP gm ga y14 (W4 p q r))) (St.call hm16 h4); clear h4 hm16) | (go_at_call 18; have HC := sameBytes_any _ _ _ _ (sect 2) (sect 2) _ (Rd.row hm17 (List.mem_append_right _ (.tail _ (.head _)))) (((gb_sect (.head _)) : GB w [] _ _ _ _).rd _ (St.sub hm17 (List.sublist_append_right _ _))); rw [beq_self_eq_true] at HC; refine HC.mono ?_; clear HC; rintro _ _ ⟨rfl, h4⟩; have hm18 := St.call0 hm17 h4; clear h4 hm17) | (go_at_call 31; have HC := errs_any hm18 (w4_good p q r) 0; rw [w4_e0] at HC; refine HC.mono ?_; clear HC; unfold ER.cells; rintro _ _ ⟨rfl, h4⟩; have hm19 := St.call0 hm18 h4; clear h4 hm18) | (refine wl_buildX (cs := [.int .i64 0, .int .i64 1, .int .i64 1]) [(1, .int .i64 1), (2, .int .i64 1)] rfl rfl (by exact rfl) (by kernel_rfl) ?_) | (refine wl_build0 rfl rfl ?_) | (go_at_call 31; have HC := errs_any hm19 (w4_good p q r) 1; rw [w4_e1] at HC; refine HC.mono ?_; clear HC; unfold ER.cells; rintro _ _ ⟨rfl, h4⟩; have hm20 := St.call0 hm19 h4; clear h4 hm19))
  go_ret
  exact ⟨rfl, hm20.nil⟩
end
end Go.Proofs.YtmdfbdfijnmhkaaGreat
namespace Go.Proofs.YtmdfbdfijnmhkaaGreat
set_option linter.unusedVariables false
set_option linter.unusedSimpArgs false
open Go.RowKit Hp
set_option maxRecDepth 100000
set_option maxHeartbeats 4000000
end Go.Proofs.YtmdfbdfijnmhkaaGreat
namespace Go.Proofs.YtmdfbdfijnmhkaaGreat
set_option linter.unusedVariables false
set_option linter.unusedSimpArgs false
open Go.RowKit Hp
set_option maxRecDepth 100000
set_option maxHeartbeats 4000000
def cont (b : List UInt8) (π : Nat → Nat) (μ : Nat → UInt8) (k i j : Nat) : List UInt8 := if j < i then spo b (π j) (μ j) else if j < k then b else sect 0
def H16 (p q r : Nat) (c : UInt8) (π : Nat → Nat) (μ : Nat → UInt8) (st : Int) (k i : Nat) : MV := ⟨AK p q r (cont (sect c) π μ k i 0) (cont (sect c) π μ k i 1) (cont (sect c) π μ k i 2) [] st, zeroE⟩
theorem cont_len {c : UInt8} {π : Nat → Nat} {μ : Nat → UInt8} {k i j : Nat} : (cont (sect c) π μ k i j).length = 256 := by
  unfold cont
  split
  · exact spo_len (sect_len _)
  · split <;> exact sect_len _
theorem h16_good {p q r : Nat} {c : UInt8} {π : Nat → Nat} {μ : Nat → UInt8} {st : Int} {k i : Nat} (h : 0 ≤ st ∧ st ≤ 10) : MGood (H16 p q r c π μ st k i) 10 :=
  ak_good cont_len cont_len cont_len (by simp) (by exact ⟨h.1, h.2⟩) (by decide) rfl (zeroE_ok _)
theorem put_flush {p q r : Nat} {c : UInt8} {π : Nat → Nat} {μ : Nat → UInt8} {k : Nat} (h1 : 1 ≤ k) (h3 : k ≤ 3) : ∃ A1, (W0 p q r).put (onDevs k) (sect c) = ⟨0, k, A1⟩ ∧ ((W0 p q r).withA A1).flush = ⟨0, 3, (H16 p q r c π μ ((k + 3 : Nat) : Int) k 0).a⟩ := by
  rcases (by omega : k = 1 ∨ k = 2 ∨ k = 3) with rfl | rfl | rfl
  · exact ⟨_, ak_put1 .., (ak_flush1 ..).trans (by kernel_rfl)⟩
  · exact ⟨_, ak_put2 .., (ak_flush2 ..).trans (by kernel_rfl)⟩
  · exact ⟨_, ak_put3 .., (ak_flush3 ..).trans (by kernel_rfl)⟩
theorem get_mg {m : MV} {N : Nat} {P : PV} (h : MGood m N) : MGood (m.get P).m (N + 2 * P.l.length) := by
  unfold MV.get
  split
  · exact h.mono (Nat.le_add_right _ _)
  · split
    · exact (found_good h).mono (by omega)
    · have h1 := (found_good (S := P.S) (but := -1) (l := P.l) (ill := []) h).heals (l := (found P.S (-1) m P.l []).ill) (b := (found P.S (-1) m P.l []).b)
      have h2 := found_ill (S := P.S) (but := -1) (l := P.l) (ill := []) (m := m)
      exact h1.mono (by rw [List.length_nil] at h2; omega)
end Go.Proofs.YtmdfbdfijnmhkaaGreat
namespace Go.Proofs.YtmdfbdfijnmhkaaGreat
set_option linter.unusedVariables false
set_option linter.unusedSimpArgs false
open Go.RowKit Hp
set_option maxRecDepth 100000
set_option maxHeartbeats 4000000
def G16 (p q r : Nat) (c : UInt8) (k : Nat) : MV := H16 p q r c (fun _ => 0) (fun _ => 0) ((k + 3 : Nat) : Int) k 0
end Go.Proofs.YtmdfbdfijnmhkaaGreat
