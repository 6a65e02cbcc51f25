import Derived.Test.YtmdfbdfijnmhkaaJMirrorNonee
import Derived.Test.YtmdfbdfijnmhkaaJMirrorNoneb
import Derived.Test.YtmdfbdfijnmhkaaOpenD1
import Derived.Test.YtmdfbdfijnmhkaaJMirrorNonec
namespace Go.Proofs.Ytmdfbdfijnmhkaa
set_option linter.unusedVariables false
set_option linter.unusedSimpArgs false
open Go.RowKit Hp
attribute [local irreducible] Go.Calls Go.wpList
set_option maxRecDepth 100000
set_option maxHeartbeats 4000000
theorem wrote_cons {b : List UInt8} {a : AR} {cnt k : Nat} {l : List (Int × Int)} (hk : k < l.length) : wrote16 b a cnt (l.drop k) = (if a.writeE (l.getD k (0, 0)).1 (l.getD k (0, 0)).2 b = 0 then wrote16 b (a.write (l.getD k (0, 0)).1 (l.getD k (0, 0)).2 b) (cnt + 1) (l.drop (k + 1))
    else if a.writeE (l.getD k (0, 0)).1 (l.getD k (0, 0)).2 b = 10 then ⟨10, 0, a.write (l.getD k (0, 0)).1 (l.getD k (0, 0)).2 b⟩
    else wrote16 b (a.write (l.getD k (0, 0)).1 (l.getD k (0, 0)).2 b) cnt (l.drop (k + 1))) := by
  rw [drop_getD hk]
  conv => lhs; unfold wrote16
def MV.withA (m : MV) (a : AR) : MV := { m with a := a }
section
attribute [local go_sem ↓] loadedIm3 loadedAm3
theorem put_len {w0 w : World} {M : List Nat} {R : List HA} {gm ga : Nat} {x : GA} {m : MV} {N : Nat} (hS : St w0 M w (mP gm ga x m ++ R)) (hg : MGood m N) (ao : Option Addr) (n c : Nat) (l : List (Int × Int)) (hA : ∀ w, St w0 M w R → Rd w (.slice ao n c) 2 n (addrsV l)) (hn : l.length = n) (bo : Option Addr) (bn bc : Nat) (bs : List UInt8) (hb : GB w0 M R (.slice bo bn bc) bn bs) (hN : N ≤ 800000) (h1 : bs.length ≠ 256) :
    Calls Try.prog 20 #[PM gm, .slice ao n c, .slice bo bn bc] w fun e w' => ∃ x', e = .returned (.tuple #[.int .i64 (m.put l bs).n, .int .i64 (m.put l bs).er]) ∧ St w0 M w' (mP gm ga x' (m.withA (m.put l bs).a) ++ R) := by
  have ho : m.putOk l bs = false := by unfold MV.putOk; rw [decide_eq_false h1]; rfl
  have hr : m.put l bs = ⟨2, 0, m.a⟩ := by unfold MV.put; rw [ho]; rfl
  rw [hr]
  have hst := hS
  have HG := hid hg
  have HN := hid hn
  have HA := hid hA
  have hbl := hb.len
  have d1 : ((bn : Int) != 256) = true := by simp; omega
  clear hS hg hn hA ho hr hbl hb h1
  unfold PM
  go_enter Try.func20, Try.ntmps20
  go_wp2_with (first | go_big_skip | go_big_guard | (go_at_call 43; refine (mirNone_any (St.mat hst HG.out.sc.ok.d0)).mono ?_; rintro _ w2 ⟨rfl, h4⟩; replace hst := St.call0 hst h4; clear h4))
  go_ret2
  exact ⟨x, rfl, hst⟩
theorem put_few {w0 w : World} {M : List Nat} {R : List HA} {gm ga : Nat} {x : GA} {m : MV} {N : Nat} (hS : St w0 M w (mP gm ga x m ++ R)) (hg : MGood m N) (ao : Option Addr) (n c : Nat) (l : List (Int × Int)) (hA : ∀ w, St w0 M w R → Rd w (.slice ao n c) 2 n (addrsV l)) (hn : l.length = n) (bo : Option Addr) (bn bc : Nat) (bs : List UInt8) (hb : GB w0 M R (.slice bo bn bc) bn bs) (hN : N ≤ 800000) (h1 : bs.length = 256) (h2 : n < 1) :
    Calls Try.prog 20 #[PM gm, .slice ao n c, .slice bo bn bc] w fun e w' => ∃ x', e = .returned (.tuple #[.int .i64 (m.put l bs).n, .int .i64 (m.put l bs).er]) ∧ St w0 M w' (mP gm ga x' (m.withA (m.put l bs).a) ++ R) := by
  have ho : m.putOk l bs = false := by unfold MV.putOk; rw [decide_eq_false (p := 1 ≤ l.length ∧ l.length ≤ 3) (by omega), Bool.and_false]; rfl
  have hr : m.put l bs = ⟨2, 0, m.a⟩ := by unfold MV.put; rw [ho]; rfl
  rw [hr]
  have hst := hS
  have HG := hid hg
  have HN := hid hn
  have HA := hid hA
  have hbl := hb.len
  obtain rfl : bn = 256 := by omega
  have d2 : decide ((n : Int) < 1) = true := decide_eq_true (by omega)
  clear hS hg hn hA ho hr hbl hb h1 h2
  unfold PM
  go_enter Try.func20, Try.ntmps20
  go_wp2_with (first | go_big_skip | go_big_guard | (go_at_call 43; refine (mirNone_any (St.mat hst HG.out.sc.ok.d0)).mono ?_; rintro _ w2 ⟨rfl, h4⟩; replace hst := St.call0 hst h4; clear h4))
  go_ret2
  exact ⟨x, rfl, hst⟩
theorem put_many {w0 w : World} {M : List Nat} {R : List HA} {gm ga : Nat} {x : GA} {m : MV} {N : Nat} (hS : St w0 M w (mP gm ga x m ++ R)) (hg : MGood m N) (ao : Option Addr) (n c : Nat) (l : List (Int × Int)) (hA : ∀ w, St w0 M w R → Rd w (.slice ao n c) 2 n (addrsV l)) (hn : l.length = n) (bo : Option Addr) (bn bc : Nat) (bs : List UInt8) (hb : GB w0 M R (.slice bo bn bc) bn bs) (hN : N ≤ 800000) (h1 : bs.length = 256) (h2 : ¬ n < 1) (h3 : 3 < n) :
    Calls Try.prog 20 #[PM gm, .slice ao n c, .slice bo bn bc] w fun e w' => ∃ x', e = .returned (.tuple #[.int .i64 (m.put l bs).n, .int .i64 (m.put l bs).er]) ∧ St w0 M w' (mP gm ga x' (m.withA (m.put l bs).a) ++ R) := by
  have ho : m.putOk l bs = false := by unfold MV.putOk; rw [decide_eq_false (p := 1 ≤ l.length ∧ l.length ≤ 3) (by omega), Bool.and_false]; rfl
  have hr : m.put l bs = ⟨2, 0, m.a⟩ := by unfold MV.put; rw [ho]; rfl
  rw [hr]
  have hst := hS
  have HG := hid hg
  have HN := hid hn
  have HA := hid hA
  have hbl := hb.len
  obtain rfl : bn = 256 := by omega
  have d2 : decide ((n : Int) < 1) = false := decide_eq_false (by omega)
  have d3 : decide ((n : Int) > 3) = true := decide_eq_true (by omega)
  clear hS hg hn hA ho hr hbl hb h1 h2 h3
  unfold PM
  go_enter Try.func20, Try.ntmps20
  go_wp2_with (first | go_big_skip | go_big_guard | (go_at_call 43; refine (mirNone_any (St.mat hst HG.out.sc.ok.d0)).mono ?_; rintro _ w2 ⟨rfl, h4⟩; replace hst := St.call0 hst h4; clear h4))
  go_ret2
  exact ⟨x, rfl, hst⟩
theorem put_off {w0 w : World} {M : List Nat} {R : List HA} {gm ga : Nat} {x : GA} {m : MV} {N : Nat} (hS : St w0 M w (mP gm ga x m ++ R)) (hg : MGood m N) (ao : Option Addr) (n c : Nat) (l : List (Int × Int)) (hA : ∀ w, St w0 M w R → Rd w (.slice ao n c) 2 n (addrsV l)) (hn : l.length = n) (bo : Option Addr) (bn bc : Nat) (bs : List UInt8) (hb : GB w0 M R (.slice bo bn bc) bn bs) (hN : N ≤ 800000) (h1 : bs.length = 256) (h2 : ¬ n < 1) (h3 : ¬ 3 < n) (h4 : m.lies l = false) :
    Calls Try.prog 20 #[PM gm, .slice ao n c, .slice bo bn bc] w fun e w' => ∃ x', e = .returned (.tuple #[.int .i64 (m.put l bs).n, .int .i64 (m.put l bs).er]) ∧ St w0 M w' (mP gm ga x' (m.withA (m.put l bs).a) ++ R) := by
  have ho : m.putOk l bs = false := by unfold MV.putOk; rw [h4, Bool.false_and, Bool.and_false]
  have hr : m.put l bs = ⟨2, 0, m.a⟩ := by unfold MV.put; rw [ho]; rfl
  rw [hr]
  have hst := hS
  have HG := hid hg
  have HN := hid hn
  have HA := hid hA
  have hbl := hb.len
  obtain rfl : bn = 256 := by omega
  have d2 : decide ((n : Int) < 1) = false := decide_eq_false (by omega)
  have d3 : decide ((n : Int) > 3) = false := decide_eq_false (by omega)
  have HLI := hid h4
  clear hS hg hn hA ho hr hbl hb h1 h2 h3 h4
  unfold PM
  go_enter Try.func20, Try.ntmps20
  go_wp2_with (first | go_big_skip | go_big_guard | (go_at_call 43; refine (mirNone_any (St.mat hst HG.out.sc.ok.d0)).mono ?_; rintro _ w2 ⟨rfl, h4⟩; replace hst := St.call0 hst h4; clear h4) | (go_at_call 46; have HD := mirSectors_any (St.mat hst HG.out.sc.ok.d0) ao n c l (HA.out _ (St.sub hst (List.sublist_append_right _ _))) HN.out; rw [HLI.out] at HD; refine HD.mono ?_; clear HD; rintro _ w3 ⟨rfl, h4⟩; replace hst := St.call0 hst h4; clear h4))
  go_ret2
  exact ⟨x, rfl, hst⟩
theorem put_near {w0 w : World} {M : List Nat} {R : List HA} {gm ga : Nat} {x : GA} {m : MV} {N : Nat} (hS : St w0 M w (mP gm ga x m ++ R)) (hg : MGood m N) (ao : Option Addr) (n c : Nat) (l : List (Int × Int)) (hA : ∀ w, St w0 M w R → Rd w (.slice ao n c) 2 n (addrsV l)) (hn : l.length = n) (bo : Option Addr) (bn bc : Nat) (bs : List UInt8) (hb : GB w0 M R (.slice bo bn bc) bn bs) (hN : N ≤ 800000) (h1 : bs.length = 256) (h2 : ¬ n < 1) (h3 : ¬ 3 < n) (h4 : m.lies l = true) (h5 : apartB l = false) :
    Calls Try.prog 20 #[PM gm, .slice ao n c, .slice bo bn bc] w fun e w' => ∃ x', e = .returned (.tuple #[.int .i64 (m.put l bs).n, .int .i64 (m.put l bs).er]) ∧ St w0 M w' (mP gm ga x' (m.withA (m.put l bs).a) ++ R) := by
  have ho : m.putOk l bs = false := by unfold MV.putOk; rw [h5, Bool.and_false, Bool.and_false]
  have hr : m.put l bs = ⟨2, 0, m.a⟩ := by unfold MV.put; rw [ho]; rfl
  rw [hr]
  have hst := hS
  have HG := hid hg
  have HN := hid hn
  have HA := hid hA
  have hbl := hb.len
  obtain rfl : bn = 256 := by omega
  have d2 : decide ((n : Int) < 1) = false := decide_eq_false (by omega)
  have d3 : decide ((n : Int) > 3) = false := decide_eq_false (by omega)
  have HLI := hid h4
  have HAP := hid h5
  clear hS hg hn hA ho hr hbl hb h1 h2 h3 h4 h5
  unfold PM
  go_enter Try.func20, Try.ntmps20
  go_wp2_with (first | go_big_skip | go_big_guard | (go_at_call 43; refine (mirNone_any (St.mat hst HG.out.sc.ok.d0)).mono ?_; rintro _ w2 ⟨rfl, h4⟩; replace hst := St.call0 hst h4; clear h4) | (go_at_call 46; have HD := mirSectors_any (St.mat hst HG.out.sc.ok.d0) ao n c l (HA.out _ (St.sub hst (List.sublist_append_right _ _))) HN.out; rw [HLI.out] at HD; refine HD.mono ?_; clear HD; rintro _ w3 ⟨rfl, h4⟩; replace hst := St.call0 hst h4; clear h4) | (go_at_call 47; have HD := apart16_any ao n c l _ (HA.out _ (St.sub hst (List.sublist_append_right _ _))) HN.out; rw [HAP.out] at HD; refine HD.mono ?_; clear HD; rintro _ w3 ⟨rfl, h4⟩; replace hst := St.call0 hst h4; clear h4))
  go_ret2
  exact ⟨x, rfl, hst⟩
theorem put_ok {w0 w : World} {M : List Nat} {R : List HA} {gm ga : Nat} {x : GA} {m : MV} {N : Nat} (hS : St w0 M w (mP gm ga x m ++ R)) (hg : MGood m N) (ao : Option Addr) (n c : Nat) (l : List (Int × Int)) (hA : ∀ w, St w0 M w R → Rd w (.slice ao n c) 2 n (addrsV l)) (hn : l.length = n) (bo : Option Addr) (bn bc : Nat) (bs : List UInt8) (hb : GB w0 M R (.slice bo bn bc) bn bs) (hN : N ≤ 800000) (h1 : bs.length = 256) (h2 : ¬ n < 1) (h3 : ¬ 3 < n) (h4 : m.lies l = true) (h5 : apartB l = true) :
    Calls Try.prog 20 #[PM gm, .slice ao n c, .slice bo bn bc] w fun e w' => ∃ x', e = .returned (.tuple #[.int .i64 (m.put l bs).n, .int .i64 (m.put l bs).er]) ∧ St w0 M w' (mP gm ga x' (m.withA (m.put l bs).a) ++ R) := by
  have ho : m.putOk l bs = true := by unfold MV.putOk; rw [h4, h5, decide_eq_true h1, decide_eq_true (p := 1 ≤ l.length ∧ l.length ≤ 3) (by omega)]; rfl
  have hr : m.put l bs = wrote16 bs m.a 0 l := by unfold MV.put; rw [ho]; rfl
  rw [hr]
  have hst := hS
  have HG := hid hg
  have HN := hid hn
  have HA := hid hA
  have hbl := hb.len
  obtain rfl : bn = 256 := by omega
  have d2 : decide ((n : Int) < 1) = false := decide_eq_false (by omega)
  have d3 : decide ((n : Int) > 3) = false := decide_eq_false (by omega)
  have HLI := hid h4
  have HAP := hid h5
  have HB := hid hb
  have HBL := hid h1
  have hn3 : n ≤ 3 := by omega
  clear hS hg hn hA ho hr hbl hb h1 h2 h3 h4 h5
  unfold PM
  go_enter Try.func20, Try.ntmps20
  go_wp2_with (first | go_big_skip | go_big_guard | (go_at_call 43; refine (mirNone_any (St.mat hst HG.out.sc.ok.d0)).mono ?_; rintro _ w2 ⟨rfl, h4⟩; replace hst := St.call0 hst h4; clear h4) | (go_at_call 46; have HD := mirSectors_any (St.mat hst HG.out.sc.ok.d0) ao n c l (HA.out _ (St.sub hst (List.sublist_append_right _ _))) HN.out; rw [HLI.out] at HD; refine HD.mono ?_; clear HD; rintro _ w3 ⟨rfl, h4⟩; replace hst := St.call0 hst h4; clear h4) | (go_at_call 47; have HD := apart16_any ao n c l _ (HA.out _ (St.sub hst (List.sublist_append_right _ _))) HN.out; rw [HAP.out] at HD; refine HD.mono ?_; clear HD; rintro _ w3 ⟨rfl, h4⟩; replace hst := St.call0 hst h4; clear h4))
  obtain ⟨W, hW⟩ : ∃ W, W = wrote16 bs m.a 0 l := ⟨_, rfl⟩
  have hm0 : m.withA m.a = m := rfl
  go_loopw [8, 41] (fun q i wr => ∃ (k cnt : Nat) (x' : GA) (a' : AR), k ≤ n ∧ cnt ≤ k ∧ i = .int .i64 k ∧ q = .int .i64 cnt ∧ Hid (wrote16 bs m.a 0 l = wrote16 bs a' cnt (l.drop k)) ∧ Hid (MGood (m.withA a') (N + k)) ∧ St w0 M wr (mP gm ga x' (m.withA a') ++ R)) (fun _ i _ => n - (intOf i).toNat)
  case atStart => exact ⟨0, 0, x, m.a, Nat.zero_le _, Nat.zero_le _, rfl, rfl, hid rfl, HG, hst⟩
  case round =>
    clear hst hm0 hW
    obtain ⟨k, cnt, x1, a1, hk, hck, rfl, rfl, HW, HGK, hst⟩ := hrel
    by_cases hlt : k < n
    · have d0 : decide ((k : Int) < (n : Int)) = true := decide_eq_true (by omega)
      obtain ⟨bb, off, rfl, hr⟩ := (HA.out _ (St.sub hst (List.sublist_append_right _ _))).at hlt
      obtain ⟨z, hz⟩ : ∃ z, z = l.getD k (0, 0) := ⟨_, rfl⟩
      have hb := addr_both hr (k := k) (by rw [HN.out]; exact hlt)
      rw [← hz] at hb
      have HAD := hid hb
      have HH := hid (wrote_cons (b := bs) (a := a1) (cnt := cnt) (l := l) (k := k) (by rw [HN.out]; exact hlt))
      rw [← hz] at HH
      obtain ⟨E, hE⟩ : ∃ E, E = a1.writeE z.1 z.2 bs := ⟨_, rfl⟩
      obtain ⟨A', hA'⟩ : ∃ A', A' = a1.write z.1 z.2 bs := ⟨_, rfl⟩
      have HE := hid hE.symm
      have HA' := hid hA'.symm
      rw [← hE, ← hA'] at HH
      have HG2 := hid (show MGood (m.withA A') (N + k + 1) from by rw [hA']; exact HGK.out.arr (HGK.out.sc.ok.write _ _ _) (Stays.write _ _ _ _))
      clear hz hb hr hE hA'
      by_cases e0 : E = 0
      · subst e0
        have HQ := hid (HW.out.trans (HH.out.trans (if_pos rfl)))
        clear HW HH
        go_wp2_with (first | go_big_skip | go_big_guard | (refine wl_index rfl rfl rfl rfl (hlt) ?_) | (refine wl_loadE rfl rfl rfl ?_; refine ⟨_, Loads.range (P := Try.prog) (cs := [.int .i64 z.1, .int .i64 z.2]) (TyA.out (n := 2)) HAD.out, ?_⟩) | (refine wl_alloc hst rfl rfl ?_; intro g11 w4 hst4; clear hst) | (refine wl_storeA [] hst4 rfl rfl rfl rfl rfl rfl rfl ?_; intro w5 hst5; clear hst4))
        have hX := hst5.drew
        clear hst5
        refine wp_region_held_drew (S := (fun w' => (loadVarH 3 ⟨g11, 0, none⟩).run Try.prog w' = .ok (.int .i64 z.1) w' ∧ (loadVarH 3 ⟨g11, 1, none⟩).run Try.prog w' = .ok (.int .i64 z.2) w' ∧ (loadVarH 25 ⟨gm, 0, none⟩).run Try.prog w' = .ok (.pointer (some ⟨ga, 0, none⟩)) w')) (by kernel_rfl) (by exact ⟨Loads.at (P := Try.prog) [] hX rfl, Loads.at (P := Try.prog) [] hX rfl, Loads.at (P := Try.prog) [_] hX rfl⟩) (fun hHeld => ?_)
        refine wpAnyH_take (i := 0) (oi := ⟨some 45, _, _, _, _, _⟩) (v := ?_) rfl (by kernel_rfl) (by kernel_rfl) (by kernel_rfl) (fun _ _ _ h => h) (Or.inl ⟨by rfl, ?_⟩) (by assumption) ?_
        rotate_left
        · intro w hSw; (try dsimp only at hSw); go_simp; try with_reducible rfl
        (try simp only [Act.put, List.setIfInBounds_toArray, List.set_cons_zero, List.set_cons_succ])
        refine wpAnyH_take (i := 4) (oi := ⟨some 49, _, _, _, _, _⟩) (v := ?_) rfl (by kernel_rfl) (by kernel_rfl) (by kernel_rfl) (fun _ _ _ h => h) (Or.inl ⟨by rfl, ?_⟩) (by assumption) ?_
        rotate_left
        · intro w hSw; (try dsimp only at hSw); go_simp; try with_reducible rfl
        (try simp only [Act.put, List.setIfInBounds_toArray, List.set_cons_zero, List.set_cons_succ])
        refine wpAnyH_take (i := 6) (oi := ⟨some 51, _, _, _, _, _⟩) (v := ?_) rfl (by kernel_rfl) (by kernel_rfl) (by kernel_rfl) (fun _ _ _ h => h) (Or.inl ⟨by rfl, ?_⟩) (by assumption) ?_
        rotate_left
        · intro w hSw; (try dsimp only at hSw); go_simp; try with_reducible rfl
        (try simp only [Act.put, List.setIfInBounds_toArray, List.set_cons_zero, List.set_cons_succ])
        refine wpAnyH_take (i := 8) (oi := ⟨some 53, _, _, _, _, _⟩) (v := ?_) rfl (by kernel_rfl) (by kernel_rfl) (by kernel_rfl) (fun _ _ _ h => h) (Or.inl ⟨by rfl, ?_⟩) (by assumption) ?_
        rotate_left
        · intro w hSw; (try dsimp only at hSw); go_simp; try with_reducible rfl
        (try simp only [Act.put, List.setIfInBounds_toArray, List.set_cons_zero, List.set_cons_succ])
        refine wpAnyH_take (i := 1) (oi := ⟨some 46, _, _, _, _, _⟩) (v := ?_) rfl (by kernel_rfl) (by kernel_rfl) (by kernel_rfl) (fun _ _ _ h => h) (Or.inl ⟨by rfl, ?_⟩) (by assumption) ?_
        rotate_left
        · intro w hSw; (try dsimp only at hSw); go_simp; try with_reducible rfl
        (try simp only [Act.put, List.setIfInBounds_toArray, List.set_cons_zero, List.set_cons_succ])
        refine wpAnyH_take (i := 5) (oi := ⟨some 50, _, _, _, _, _⟩) (v := ?_) rfl (by kernel_rfl) (by kernel_rfl) (by kernel_rfl) (fun _ _ _ h => h) (Or.inl ⟨by rfl, ?_⟩) (by assumption) ?_
        rotate_left
        · intro w hSw; (try dsimp only at hSw); go_simp; try with_reducible rfl
        (try simp only [Act.put, List.setIfInBounds_toArray, List.set_cons_zero, List.set_cons_succ])
        refine wpAnyH_take (i := 7) (oi := ⟨some 52, _, _, _, _, _⟩) (v := ?_) rfl (by kernel_rfl) (by kernel_rfl) (by kernel_rfl) (fun _ _ _ h => h) (Or.inl ⟨by rfl, ?_⟩) (by assumption) ?_
        rotate_left
        · intro w hSw; (try dsimp only at hSw); go_simp; try with_reducible rfl
        (try simp only [Act.put, List.setIfInBounds_toArray, List.set_cons_zero, List.set_cons_succ])
        refine wpAnyH_take (i := 2) (oi := ⟨some 47, _, _, _, _, _⟩) (v := ?_) rfl (by kernel_rfl) (by kernel_rfl) (by kernel_rfl) (fun _ _ _ h => h) (Or.inl ⟨by rfl, ?_⟩) (by assumption) ?_
        rotate_left
        · intro w hSw; (try dsimp only at hSw); go_simp; try with_reducible rfl
        (try simp only [Act.put, List.setIfInBounds_toArray, List.set_cons_zero, List.set_cons_succ])
        refine wpAnyH_take (i := 3) (oi := ⟨some 48, _, _, _, _, _⟩) (v := ?_) rfl (by kernel_rfl) (by kernel_rfl) (by kernel_rfl) (fun _ _ _ h => h) (Or.inl ⟨by rfl, ?_⟩) (by assumption) ?_
        rotate_left
        · intro w hSw; (try dsimp only at hSw); go_simp; try with_reducible rfl
        (try simp only [Act.put, List.setIfInBounds_toArray, List.set_cons_zero, List.set_cons_succ])
        refine wpAnyH_ready (rs := [9]) (by kernel_rfl) (by simp) ?_
        refine (AllReadyH.cons (o := ⟨some 54, _, _, _, _, _⟩) rfl (fun K hK => ?_) AllReadyH.nil)
        rw [if_pos (by rfl)]
        go_simp
        go_at_call 48
        have HC := writeM_any (mid_in (P := [_]) (Bs := [_]) hX) HGK.out.sc.ok (HGK.out.st (by omega)) (HGK.out.ll (by omega)) z.1 z.2 bo 256 bc bs (HB.out.rd _ (St.sub hX (.cons _ (List.sublist_append_right _ _)))) HB.out.len (HB.out.off (P := arP ga x1 (m.withA a1).a) (St.tl (St.tl hX)))
        rw [show (m.withA a1).a = a1 from rfl, HE.out, HA'.out] at HC
        refine HC.mono ?_
        clear HC
        rintro _ w6 ⟨rfl, x2, h4⟩
        have hE : St w0 M w6 (.blk g11 83 [.int .i64 z.1, .int .i64 z.2] :: (mP gm ga x2 (m.withA A') ++ R)) := mid_out (P := [_]) (Bs := [_]) hX h4
        clear h4
        refine hK.out _ _ ?_ (fun hHeld => ?_)
        · exact ⟨Loads.at (P := Try.prog) [] hE rfl, Loads.at (P := Try.prog) [] hE rfl, Loads.at (P := Try.prog) [_] hE rfl⟩
        clear hK K
        (try simp only [Act.put, List.setIfInBounds_toArray, List.set_cons_zero, List.set_cons_succ])
        refine wpAnyH_done (by kernel_rfl) ?_ _
        clear hHeld
        go_wp2_with (first | go_big_skip | go_big_guard | fail)
        go_roundw
        case rel => exact ⟨k + 1, cnt + 1, x2, A', by omega, by omega, by go_num, by go_num, HQ, HG2, St.tl hE⟩
        case measure => simp [intOf]; omega
      by_cases e1 : E = 10
      · subst e1
        have HQ := hid (HW.out.trans (HH.out.trans ((if_neg (by decide)).trans (if_pos rfl))))
        clear HW HH
        go_wp2_with (first | go_big_skip | go_big_guard | (refine wl_index rfl rfl rfl rfl (hlt) ?_) | (refine wl_loadE rfl rfl rfl ?_; refine ⟨_, Loads.range (P := Try.prog) (cs := [.int .i64 z.1, .int .i64 z.2]) (TyA.out (n := 2)) HAD.out, ?_⟩) | (refine wl_alloc hst rfl rfl ?_; intro g11 w4 hst4; clear hst) | (refine wl_storeA [] hst4 rfl rfl rfl rfl rfl rfl rfl ?_; intro w5 hst5; clear hst4))
        have hX := hst5.drew
        clear hst5
        refine wp_region_held_drew (S := (fun w' => (loadVarH 3 ⟨g11, 0, none⟩).run Try.prog w' = .ok (.int .i64 z.1) w' ∧ (loadVarH 3 ⟨g11, 1, none⟩).run Try.prog w' = .ok (.int .i64 z.2) w' ∧ (loadVarH 25 ⟨gm, 0, none⟩).run Try.prog w' = .ok (.pointer (some ⟨ga, 0, none⟩)) w')) (by kernel_rfl) (by exact ⟨Loads.at (P := Try.prog) [] hX rfl, Loads.at (P := Try.prog) [] hX rfl, Loads.at (P := Try.prog) [_] hX rfl⟩) (fun hHeld => ?_)
        refine wpAnyH_take (i := 0) (oi := ⟨some 45, _, _, _, _, _⟩) (v := ?_) rfl (by kernel_rfl) (by kernel_rfl) (by kernel_rfl) (fun _ _ _ h => h) (Or.inl ⟨by rfl, ?_⟩) (by assumption) ?_
        rotate_left
        · intro w hSw; (try dsimp only at hSw); go_simp; try with_reducible rfl
        (try simp only [Act.put, List.setIfInBounds_toArray, List.set_cons_zero, List.set_cons_succ])
        refine wpAnyH_take (i := 4) (oi := ⟨some 49, _, _, _, _, _⟩) (v := ?_) rfl (by kernel_rfl) (by kernel_rfl) (by kernel_rfl) (fun _ _ _ h => h) (Or.inl ⟨by rfl, ?_⟩) (by assumption) ?_
        rotate_left
        · intro w hSw; (try dsimp only at hSw); go_simp; try with_reducible rfl
        (try simp only [Act.put, List.setIfInBounds_toArray, List.set_cons_zero, List.set_cons_succ])
        refine wpAnyH_take (i := 6) (oi := ⟨some 51, _, _, _, _, _⟩) (v := ?_) rfl (by kernel_rfl) (by kernel_rfl) (by kernel_rfl) (fun _ _ _ h => h) (Or.inl ⟨by rfl, ?_⟩) (by assumption) ?_
        rotate_left
        · intro w hSw; (try dsimp only at hSw); go_simp; try with_reducible rfl
        (try simp only [Act.put, List.setIfInBounds_toArray, List.set_cons_zero, List.set_cons_succ])
        refine wpAnyH_take (i := 8) (oi := ⟨some 53, _, _, _, _, _⟩) (v := ?_) rfl (by kernel_rfl) (by kernel_rfl) (by kernel_rfl) (fun _ _ _ h => h) (Or.inl ⟨by rfl, ?_⟩) (by assumption) ?_
        rotate_left
        · intro w hSw; (try dsimp only at hSw); go_simp; try with_reducible rfl
        (try simp only [Act.put, List.setIfInBounds_toArray, List.set_cons_zero, List.set_cons_succ])
        refine wpAnyH_take (i := 1) (oi := ⟨some 46, _, _, _, _, _⟩) (v := ?_) rfl (by kernel_rfl) (by kernel_rfl) (by kernel_rfl) (fun _ _ _ h => h) (Or.inl ⟨by rfl, ?_⟩) (by assumption) ?_
        rotate_left
        · intro w hSw; (try dsimp only at hSw); go_simp; try with_reducible rfl
        (try simp only [Act.put, List.setIfInBounds_toArray, List.set_cons_zero, List.set_cons_succ])
        refine wpAnyH_take (i := 5) (oi := ⟨some 50, _, _, _, _, _⟩) (v := ?_) rfl (by kernel_rfl) (by kernel_rfl) (by kernel_rfl) (fun _ _ _ h => h) (Or.inl ⟨by rfl, ?_⟩) (by assumption) ?_
        rotate_left
        · intro w hSw; (try dsimp only at hSw); go_simp; try with_reducible rfl
        (try simp only [Act.put, List.setIfInBounds_toArray, List.set_cons_zero, List.set_cons_succ])
        refine wpAnyH_take (i := 7) (oi := ⟨some 52, _, _, _, _, _⟩) (v := ?_) rfl (by kernel_rfl) (by kernel_rfl) (by kernel_rfl) (fun _ _ _ h => h) (Or.inl ⟨by rfl, ?_⟩) (by assumption) ?_
        rotate_left
        · intro w hSw; (try dsimp only at hSw); go_simp; try with_reducible rfl
        (try simp only [Act.put, List.setIfInBounds_toArray, List.set_cons_zero, List.set_cons_succ])
        refine wpAnyH_take (i := 2) (oi := ⟨some 47, _, _, _, _, _⟩) (v := ?_) rfl (by kernel_rfl) (by kernel_rfl) (by kernel_rfl) (fun _ _ _ h => h) (Or.inl ⟨by rfl, ?_⟩) (by assumption) ?_
        rotate_left
        · intro w hSw; (try dsimp only at hSw); go_simp; try with_reducible rfl
        (try simp only [Act.put, List.setIfInBounds_toArray, List.set_cons_zero, List.set_cons_succ])
        refine wpAnyH_take (i := 3) (oi := ⟨some 48, _, _, _, _, _⟩) (v := ?_) rfl (by kernel_rfl) (by kernel_rfl) (by kernel_rfl) (fun _ _ _ h => h) (Or.inl ⟨by rfl, ?_⟩) (by assumption) ?_
        rotate_left
        · intro w hSw; (try dsimp only at hSw); go_simp; try with_reducible rfl
        (try simp only [Act.put, List.setIfInBounds_toArray, List.set_cons_zero, List.set_cons_succ])
        refine wpAnyH_ready (rs := [9]) (by kernel_rfl) (by simp) ?_
        refine (AllReadyH.cons (o := ⟨some 54, _, _, _, _, _⟩) rfl (fun K hK => ?_) AllReadyH.nil)
        rw [if_pos (by rfl)]
        go_simp
        go_at_call 48
        have HC := writeM_any (mid_in (P := [_]) (Bs := [_]) hX) HGK.out.sc.ok (HGK.out.st (by omega)) (HGK.out.ll (by omega)) z.1 z.2 bo 256 bc bs (HB.out.rd _ (St.sub hX (.cons _ (List.sublist_append_right _ _)))) HB.out.len (HB.out.off (P := arP ga x1 (m.withA a1).a) (St.tl (St.tl hX)))
        rw [show (m.withA a1).a = a1 from rfl, HE.out, HA'.out] at HC
        refine HC.mono ?_
        clear HC
        rintro _ w6 ⟨rfl, x2, h4⟩
        have hE : St w0 M w6 (.blk g11 83 [.int .i64 z.1, .int .i64 z.2] :: (mP gm ga x2 (m.withA A') ++ R)) := mid_out (P := [_]) (Bs := [_]) hX h4
        clear h4
        refine hK.out _ _ ?_ (fun hHeld => ?_)
        · exact ⟨Loads.at (P := Try.prog) [] hE rfl, Loads.at (P := Try.prog) [] hE rfl, Loads.at (P := Try.prog) [_] hE rfl⟩
        clear hK K
        (try simp only [Act.put, List.setIfInBounds_toArray, List.set_cons_zero, List.set_cons_succ])
        refine wpAnyH_done (by kernel_rfl) ?_ _
        clear hHeld
        go_wp2_with (first | go_big_skip | go_big_guard | fail)
        go_ret2
        exact ⟨x2, by rw [HQ.out]; rfl, by rw [HQ.out]; exact St.tl hE⟩
      have HQ := hid (HW.out.trans (HH.out.trans ((if_neg e0).trans (if_neg e1))))
      have f0 : (E == 0) = false := beq_eq_false_iff_ne.2 e0
      have f1 : (E == 10) = false := beq_eq_false_iff_ne.2 e1
      clear e0 e1
      clear HW HH
      go_wp2_with (first | go_big_skip | go_big_guard | (refine wl_index rfl rfl rfl rfl (hlt) ?_) | (refine wl_loadE rfl rfl rfl ?_; refine ⟨_, Loads.range (P := Try.prog) (cs := [.int .i64 z.1, .int .i64 z.2]) (TyA.out (n := 2)) HAD.out, ?_⟩) | (refine wl_alloc hst rfl rfl ?_; intro g11 w4 hst4; clear hst) | (refine wl_storeA [] hst4 rfl rfl rfl rfl rfl rfl rfl ?_; intro w5 hst5; clear hst4))
      have hX := hst5.drew
      clear hst5
      refine wp_region_held_drew (S := (fun w' => (loadVarH 3 ⟨g11, 0, none⟩).run Try.prog w' = .ok (.int .i64 z.1) w' ∧ (loadVarH 3 ⟨g11, 1, none⟩).run Try.prog w' = .ok (.int .i64 z.2) w' ∧ (loadVarH 25 ⟨gm, 0, none⟩).run Try.prog w' = .ok (.pointer (some ⟨ga, 0, none⟩)) w')) (by kernel_rfl) (by exact ⟨Loads.at (P := Try.prog) [] hX rfl, Loads.at (P := Try.prog) [] hX rfl, Loads.at (P := Try.prog) [_] hX rfl⟩) (fun hHeld => ?_)
      refine wpAnyH_take (i := 0) (oi := ⟨some 45, _, _, _, _, _⟩) (v := ?_) rfl (by kernel_rfl) (by kernel_rfl) (by kernel_rfl) (fun _ _ _ h => h) (Or.inl ⟨by rfl, ?_⟩) (by assumption) ?_
      rotate_left
      · intro w hSw; (try dsimp only at hSw); go_simp; try with_reducible rfl
      (try simp only [Act.put, List.setIfInBounds_toArray, List.set_cons_zero, List.set_cons_succ])
      refine wpAnyH_take (i := 4) (oi := ⟨some 49, _, _, _, _, _⟩) (v := ?_) rfl (by kernel_rfl) (by kernel_rfl) (by kernel_rfl) (fun _ _ _ h => h) (Or.inl ⟨by rfl, ?_⟩) (by assumption) ?_
      rotate_left
      · intro w hSw; (try dsimp only at hSw); go_simp; try with_reducible rfl
      (try simp only [Act.put, List.setIfInBounds_toArray, List.set_cons_zero, List.set_cons_succ])
      refine wpAnyH_take (i := 6) (oi := ⟨some 51, _, _, _, _, _⟩) (v := ?_) rfl (by kernel_rfl) (by kernel_rfl) (by kernel_rfl) (fun _ _ _ h => h) (Or.inl ⟨by rfl, ?_⟩) (by assumption) ?_
      rotate_left
      · intro w hSw; (try dsimp only at hSw); go_simp; try with_reducible rfl
      (try simp only [Act.put, List.setIfInBounds_toArray, List.set_cons_zero, List.set_cons_succ])
      refine wpAnyH_take (i := 8) (oi := ⟨some 53, _, _, _, _, _⟩) (v := ?_) rfl (by kernel_rfl) (by kernel_rfl) (by kernel_rfl) (fun _ _ _ h => h) (Or.inl ⟨by rfl, ?_⟩) (by assumption) ?_
      rotate_left
      · intro w hSw; (try dsimp only at hSw); go_simp; try with_reducible rfl
      (try simp only [Act.put, List.setIfInBounds_toArray, List.set_cons_zero, List.set_cons_succ])
      refine wpAnyH_take (i := 1) (oi := ⟨some 46, _, _, _, _, _⟩) (v := ?_) rfl (by kernel_rfl) (by kernel_rfl) (by kernel_rfl) (fun _ _ _ h => h) (Or.inl ⟨by rfl, ?_⟩) (by assumption) ?_
      rotate_left
      · intro w hSw; (try dsimp only at hSw); go_simp; try with_reducible rfl
      (try simp only [Act.put, List.setIfInBounds_toArray, List.set_cons_zero, List.set_cons_succ])
      refine wpAnyH_take (i := 5) (oi := ⟨some 50, _, _, _, _, _⟩) (v := ?_) rfl (by kernel_rfl) (by kernel_rfl) (by kernel_rfl) (fun _ _ _ h => h) (Or.inl ⟨by rfl, ?_⟩) (by assumption) ?_
      rotate_left
      · intro w hSw; (try dsimp only at hSw); go_simp; try with_reducible rfl
      (try simp only [Act.put, List.setIfInBounds_toArray, List.set_cons_zero, List.set_cons_succ])
      refine wpAnyH_take (i := 7) (oi := ⟨some 52, _, _, _, _, _⟩) (v := ?_) rfl (by kernel_rfl) (by kernel_rfl) (by kernel_rfl) (fun _ _ _ h => h) (Or.inl ⟨by rfl, ?_⟩) (by assumption) ?_
      rotate_left
      · intro w hSw; (try dsimp only at hSw); go_simp; try with_reducible rfl
      (try simp only [Act.put, List.setIfInBounds_toArray, List.set_cons_zero, List.set_cons_succ])
      refine wpAnyH_take (i := 2) (oi := ⟨some 47, _, _, _, _, _⟩) (v := ?_) rfl (by kernel_rfl) (by kernel_rfl) (by kernel_rfl) (fun _ _ _ h => h) (Or.inl ⟨by rfl, ?_⟩) (by assumption) ?_
      rotate_left
      · intro w hSw; (try dsimp only at hSw); go_simp; try with_reducible rfl
      (try simp only [Act.put, List.setIfInBounds_toArray, List.set_cons_zero, List.set_cons_succ])
      refine wpAnyH_take (i := 3) (oi := ⟨some 48, _, _, _, _, _⟩) (v := ?_) rfl (by kernel_rfl) (by kernel_rfl) (by kernel_rfl) (fun _ _ _ h => h) (Or.inl ⟨by rfl, ?_⟩) (by assumption) ?_
      rotate_left
      · intro w hSw; (try dsimp only at hSw); go_simp; try with_reducible rfl
      (try simp only [Act.put, List.setIfInBounds_toArray, List.set_cons_zero, List.set_cons_succ])
      refine wpAnyH_ready (rs := [9]) (by kernel_rfl) (by simp) ?_
      refine (AllReadyH.cons (o := ⟨some 54, _, _, _, _, _⟩) rfl (fun K hK => ?_) AllReadyH.nil)
      rw [if_pos (by rfl)]
      go_simp
      go_at_call 48
      have HC := writeM_any (mid_in (P := [_]) (Bs := [_]) hX) HGK.out.sc.ok (HGK.out.st (by omega)) (HGK.out.ll (by omega)) z.1 z.2 bo 256 bc bs (HB.out.rd _ (St.sub hX (.cons _ (List.sublist_append_right _ _)))) HB.out.len (HB.out.off (P := arP ga x1 (m.withA a1).a) (St.tl (St.tl hX)))
      rw [show (m.withA a1).a = a1 from rfl, HE.out, HA'.out] at HC
      refine HC.mono ?_
      clear HC
      rintro _ w6 ⟨rfl, x2, h4⟩
      have hE : St w0 M w6 (.blk g11 83 [.int .i64 z.1, .int .i64 z.2] :: (mP gm ga x2 (m.withA A') ++ R)) := mid_out (P := [_]) (Bs := [_]) hX h4
      clear h4
      refine hK.out _ _ ?_ (fun hHeld => ?_)
      · exact ⟨Loads.at (P := Try.prog) [] hE rfl, Loads.at (P := Try.prog) [] hE rfl, Loads.at (P := Try.prog) [_] hE rfl⟩
      clear hK K
      (try simp only [Act.put, List.setIfInBounds_toArray, List.set_cons_zero, List.set_cons_succ])
      refine wpAnyH_done (by kernel_rfl) ?_ _
      clear hHeld
      go_wp2_with (first | go_big_skip | go_big_guard | fail)
      go_roundw
      case rel => exact ⟨k + 1, cnt, x2, A', by omega, by omega, by go_num, rfl, HQ, HG2, St.tl hE⟩
      case measure => simp [intOf]; omega
    · obtain rfl : k = n := by omega
      have d0 : decide ((k : Int) < (k : Int)) = false := decide_eq_false (by omega)
      have HQ := hid (show wrote16 bs m.a 0 l = some16 cnt a1 from HW.out.trans (by rw [← HN.out, List.drop_length]; rfl))
      by_cases hc : cnt = 0
      · subst hc
        have HQ2 := hid (HQ.out.trans (show some16 0 a1 = ⟨13, 0, a1⟩ from rfl))
        clear HQ
        rw [show ((0 : Nat) : Int) = 0 from rfl]
        go_wp2_with (first | go_big_skip | go_big_guard | (go_at_call 49; refine (some16_any 0 (by omega) _).mono ?_; rw [if_pos rfl]; rintro _ w9 ⟨rfl, h4⟩; have hst9 := St.call0 hst h4; clear h4 hst))
        go_ret2
        exact ⟨x1, by rw [HQ2.out]; rfl, by rw [HQ2.out]; exact hst9⟩
      · have HC0 := hid hc
        have HQ2 := hid (HQ.out.trans (show some16 cnt a1 = ⟨0, cnt, a1⟩ by unfold some16; rw [if_neg hc]))
        clear HQ
        go_wp2_with (first | go_big_skip | go_big_guard | (go_at_call 49; refine (some16_any cnt (by omega) _).mono ?_; rw [if_neg HC0.out]; rintro _ w9 ⟨rfl, h4⟩; have hst9 := St.call0 hst h4; clear h4 hst))
        go_ret2
        exact ⟨x1, by rw [HQ2.out]; rfl, by rw [HQ2.out]; exact hst9⟩
theorem put_any {w0 w : World} {M : List Nat} {R : List HA} {gm ga : Nat} {x : GA} {m : MV} {N : Nat} (hS : St w0 M w (mP gm ga x m ++ R)) (hg : MGood m N) (ao : Option Addr) (n c : Nat) (l : List (Int × Int)) (hA : ∀ w, St w0 M w R → Rd w (.slice ao n c) 2 n (addrsV l)) (hn : l.length = n) (bo : Option Addr) (bn bc : Nat) (bs : List UInt8) (hb : GB w0 M R (.slice bo bn bc) bn bs) (hN : N ≤ 800000) :
    Calls Try.prog 20 #[PM gm, .slice ao n c, .slice bo bn bc] w fun e w' => ∃ x', e = .returned (.tuple #[.int .i64 (m.put l bs).n, .int .i64 (m.put l bs).er]) ∧ St w0 M w' (mP gm ga x' (m.withA (m.put l bs).a) ++ R) := by
  by_cases h1 : bs.length = 256
  · by_cases h2 : n < 1
    · exact put_few hS hg ao n c l hA hn bo bn bc bs hb hN h1 h2
    · by_cases h3 : 3 < n
      · exact put_many hS hg ao n c l hA hn bo bn bc bs hb hN h1 h2 h3
      · cases h4 : m.lies l
        · exact put_off hS hg ao n c l hA hn bo bn bc bs hb hN h1 h2 h3 h4
        · cases h5 : apartB l
          · exact put_near hS hg ao n c l hA hn bo bn bc bs hb hN h1 h2 h3 h4 h5
          · exact put_ok hS hg ao n c l hA hn bo bn bc bs hb hN h1 h2 h3 h4 h5
  · exact put_len hS hg ao n c l hA hn bo bn bc bs hb hN h1
end
end Go.Proofs.Ytmdfbdfijnmhkaa
namespace Go.Proofs.Ytmdfbdfijnmhkaa
set_option linter.unusedVariables false
set_option linter.unusedSimpArgs false
open Go.RowKit Hp
attribute [local irreducible] Go.Calls Go.wpList
set_option maxRecDepth 100000
set_option maxHeartbeats 4000000
theorem flushed_step {d k cnt : Nat} {a : AR} (hk : k < d) : flushed16 d (d - k) a cnt = (if a.up (k : Int) = false then flushed16 d (d - (k + 1)) a cnt
    else if a.flushE (k : Int) = 0 then flushed16 d (d - (k + 1)) (a.flush (k : Int)) (cnt + 1)
    else if a.flushE (k : Int) = 10 then ⟨10, 0, a.flush (k : Int)⟩
    else flushed16 d (d - (k + 1)) (a.flush (k : Int)) cnt) := by
  have e : d - k = (d - (k + 1)) + 1 := by omega
  rw [e]
  conv => lhs; unfold flushed16
  have e2 : d - (d - (k + 1) + 1) = k := by omega
  rw [e2]
theorem flush_out {w0 w : World} {M : List Nat} {R : List HA} {gm ga : Nat} {x : GA} {m : MV} {N : Nat} (hS : St w0 M w (mP gm ga x m ++ R)) (hg : MGood m N) (hN : N ≤ 800000) (h1 : m.a.out = true) :
    Calls Try.prog 21 #[PM gm] w fun e w' => ∃ x', e = .returned (.tuple #[.int .i64 m.flush.n, .int .i64 m.flush.er]) ∧ St w0 M w' (mP gm ga x' (m.withA m.flush.a) ++ R) := by
  have hr : m.flush = ⟨10, 0, m.a⟩ := by unfold MV.flush; rw [h1]; rfl
  rw [hr]
  have hst := hS
  have HG := hid hg
  have HO := hid h1
  clear hS hg h1 hr
  unfold PM
  go_enter Try.func21, Try.ntmps21
  go_wp2_with (first | go_big_skip | go_big_guard | (go_at_call 43; refine (mirNone_any (St.mat hst HG.out.sc.ok.d0)).mono ?_; rintro _ w2 ⟨rfl, h4⟩; replace hst := St.call0 hst h4; clear h4) | (go_at_call 50; have HC := broken_any hst HG.out (by omega); rw [HO.out] at HC; refine HC.mono ?_; clear HC; rintro _ w2 ⟨rfl, h4⟩; replace hst := h4; clear h4))
  go_ret2
  exact ⟨x, rfl, hst⟩
theorem flush_on {w0 w : World} {M : List Nat} {R : List HA} {gm ga : Nat} {x : GA} {m : MV} {N : Nat} (hS : St w0 M w (mP gm ga x m ++ R)) (hg : MGood m N) (hN : N ≤ 800000) (h1 : m.a.out = false) :
    Calls Try.prog 21 #[PM gm] w fun e w' => ∃ x', e = .returned (.tuple #[.int .i64 m.flush.n, .int .i64 m.flush.er]) ∧ St w0 M w' (mP gm ga x' (m.withA m.flush.a) ++ R) := by
  have hr : m.flush = flushed16 m.a.devs.length m.a.devs.length m.a 0 := by unfold MV.flush; rw [h1]; rfl
  rw [hr]
  have hst := hS
  have HG := hid hg
  have HO := hid h1
  obtain ⟨d, hd⟩ : ∃ d, d = m.a.devs.length := ⟨_, rfl⟩
  have HD := hid hd
  have hd8 : d ≤ 8 := by rw [hd]; exact hg.sc.ok.dn
  rw [← hd]
  obtain ⟨F, hF⟩ : ∃ F, F = flushed16 d d m.a 0 := ⟨_, rfl⟩
  have HF := hid hF
  rw [← hF]
  clear hS hg h1 hr hd hF
  unfold PM
  go_enter Try.func21, Try.ntmps21
  go_wp2_with (first | go_big_skip | go_big_guard | (go_at_call 43; refine (mirNone_any (St.mat hst HG.out.sc.ok.d0)).mono ?_; rintro _ w2 ⟨rfl, h4⟩; replace hst := St.call0 hst h4; clear h4) | (go_at_call 50; have HC := broken_any hst HG.out (by omega); rw [HO.out] at HC; refine HC.mono ?_; clear HC; rintro _ w2 ⟨rfl, h4⟩; replace hst := h4; clear h4) | (refine wl_loadE rfl rfl rfl ?_; refine ⟨_, Loads.at (P := Try.prog) [] hst rfl, ?_⟩) | (go_at_call 44; have HC := devs_any (St.mat hst HG.out.sc.ok.d0).arr.toArrAt; rw [← HD.out] at HC; refine HC.mono ?_; clear HC; rintro _ w3 ⟨rfl, h4⟩; replace hst := St.call0 hst h4; clear h4))
  go_loopw [4, 17] (fun q i wr => ∃ (k cnt : Nat) (x' : GA) (a' : AR), k ≤ d ∧ cnt ≤ k ∧ i = .int .i64 k ∧ q = .int .i64 cnt ∧ Hid (F = flushed16 d (d - k) a' cnt) ∧ Hid (MGood (m.withA a') (N + k)) ∧ St w0 M wr (mP gm ga x' (m.withA a') ++ R)) (fun _ i _ => d - (intOf i).toNat)
  case atStart => exact ⟨0, 0, x, m.a, Nat.zero_le _, Nat.zero_le _, rfl, rfl, HF, HG, hst⟩
  case round =>
    clear hst
    obtain ⟨k, cnt, x1, a1, hk, hck, rfl, rfl, HW, HGK, hst⟩ := hrel
    by_cases hlt : k < d
    · have d0 : decide ((k : Int) < (d : Int)) = true := decide_eq_true (by omega)
      have HH := hid (flushed_step (a := a1) (cnt := cnt) hlt)
      cases hup : a1.up (k : Int)
      · have HUP := hid hup
        have HQ := hid (HW.out.trans (HH.out.trans (if_pos hup)))
        clear HW HH hup
        go_wp2_with (first | go_big_skip | go_big_guard | (refine wl_loadE rfl rfl rfl ?_; refine ⟨_, Loads.at (P := Try.prog) [] hst rfl, ?_⟩) | (go_at_call 32; refine (up_any (a := a1) (St.mat hst HGK.out.sc.ok.d0).arr.toArrAt (k : Int)).mono ?_; rw [HUP.out]; rintro _ w3 ⟨rfl, h4⟩; have hst3 := St.call0 hst h4; clear h4 hst))
        go_roundw
        case rel => exact ⟨k + 1, cnt, x1, a1, by omega, by omega, by go_num, rfl, HQ, hid (HGK.out.mono (by omega)), hst3⟩
        case measure => simp [intOf]; omega
      · have HUP := hid hup
        obtain ⟨E, hE⟩ : ∃ E, E = a1.flushE (k : Int) := ⟨_, rfl⟩
        obtain ⟨A', hA'⟩ : ∃ A', A' = a1.flush (k : Int) := ⟨_, rfl⟩
        have HE := hid hE.symm
        have HA' := hid hA'.symm
        rw [← hE, ← hA', hup] at HH
        have HG2 := hid (show MGood (m.withA A') (N + k + 1) from by rw [hA']; exact HGK.out.arr (HGK.out.sc.ok.flush _) (Stays.flush _ _))
        have HW2 := hid (HW.out.trans (HH.out.trans (if_neg (by decide))))
        clear HW HH hup hE hA'
        by_cases e0 : E = 0
        · subst e0
          have HQ := hid (HW2.out.trans (if_pos rfl))
          clear HW2
          go_wp2_with (first | go_big_skip | go_big_guard | (refine wl_loadE rfl rfl rfl ?_; first | refine ⟨_, Loads.at (P := Try.prog) [] hst rfl, ?_⟩ | refine ⟨_, Loads.at (P := Try.prog) [] hst3 rfl, ?_⟩) | (go_at_call 32; refine (up_any (a := a1) (St.mat hst HGK.out.sc.ok.d0).arr.toArrAt (k : Int)).mono ?_; rw [HUP.out]; rintro _ w3 ⟨rfl, h4⟩; have hst3 := St.call0 hst h4; clear h4 hst) | (go_at_call 51; have HC := flushM_any (mid_in (P := []) (Bs := [_]) hst3) HGK.out.sc.ok (HGK.out.st (by omega)) (HGK.out.ll (by omega)) (k : Int); rw [show (m.withA a1).a = a1 from rfl, HE.out, HA'.out] at HC; refine HC.mono ?_; clear HC; rintro _ w4 ⟨rfl, x2, h4⟩; have hst4 : St w0 M w4 (mP gm ga x2 (m.withA A') ++ R) := mid_out (P := []) (Bs := [_]) hst3 h4; clear h4 hst3))
          go_roundw
          case rel => exact ⟨k + 1, cnt + 1, x2, A', by omega, by omega, by go_num, by go_num, HQ, HG2, hst4⟩
          case measure => simp [intOf]; omega
        by_cases e1 : E = 10
        · subst e1
          have HQ := hid (HW2.out.trans ((if_neg (by decide)).trans (if_pos rfl)))
          clear HW2
          go_wp2_with (first | go_big_skip | go_big_guard | (refine wl_loadE rfl rfl rfl ?_; first | refine ⟨_, Loads.at (P := Try.prog) [] hst rfl, ?_⟩ | refine ⟨_, Loads.at (P := Try.prog) [] hst3 rfl, ?_⟩) | (go_at_call 32; refine (up_any (a := a1) (St.mat hst HGK.out.sc.ok.d0).arr.toArrAt (k : Int)).mono ?_; rw [HUP.out]; rintro _ w3 ⟨rfl, h4⟩; have hst3 := St.call0 hst h4; clear h4 hst) | (go_at_call 51; have HC := flushM_any (mid_in (P := []) (Bs := [_]) hst3) HGK.out.sc.ok (HGK.out.st (by omega)) (HGK.out.ll (by omega)) (k : Int); rw [show (m.withA a1).a = a1 from rfl, HE.out, HA'.out] at HC; refine HC.mono ?_; clear HC; rintro _ w4 ⟨rfl, x2, h4⟩; have hst4 : St w0 M w4 (mP gm ga x2 (m.withA A') ++ R) := mid_out (P := []) (Bs := [_]) hst3 h4; clear h4 hst3))
          go_ret2
          exact ⟨x2, by rw [HQ.out]; rfl, by rw [HQ.out]; exact hst4⟩
        have HQ := hid (HW2.out.trans ((if_neg e0).trans (if_neg e1)))
        have f0 : (E == 0) = false := beq_eq_false_iff_ne.2 e0
        have f1 : (E == 10) = false := beq_eq_false_iff_ne.2 e1
        clear e0 e1
        clear HW2
        go_wp2_with (first | go_big_skip | go_big_guard | (refine wl_loadE rfl rfl rfl ?_; first | refine ⟨_, Loads.at (P := Try.prog) [] hst rfl, ?_⟩ | refine ⟨_, Loads.at (P := Try.prog) [] hst3 rfl, ?_⟩) | (go_at_call 32; refine (up_any (a := a1) (St.mat hst HGK.out.sc.ok.d0).arr.toArrAt (k : Int)).mono ?_; rw [HUP.out]; rintro _ w3 ⟨rfl, h4⟩; have hst3 := St.call0 hst h4; clear h4 hst) | (go_at_call 51; have HC := flushM_any (mid_in (P := []) (Bs := [_]) hst3) HGK.out.sc.ok (HGK.out.st (by omega)) (HGK.out.ll (by omega)) (k : Int); rw [show (m.withA a1).a = a1 from rfl, HE.out, HA'.out] at HC; refine HC.mono ?_; clear HC; rintro _ w4 ⟨rfl, x2, h4⟩; have hst4 : St w0 M w4 (mP gm ga x2 (m.withA A') ++ R) := mid_out (P := []) (Bs := [_]) hst3 h4; clear h4 hst3))
        go_roundw
        case rel => exact ⟨k + 1, cnt, x2, A', by omega, by omega, by go_num, rfl, HQ, HG2, hst4⟩
        case measure => simp [intOf]; omega
    · obtain rfl : k = d := by omega
      have d0 : decide ((k : Int) < (k : Int)) = false := decide_eq_false (by omega)
      have HQ := hid (show F = some16 cnt a1 from HW.out.trans (by rw [Nat.sub_self]; rfl))
      by_cases hc : cnt = 0
      · subst hc
        have HQ2 := hid (HQ.out.trans (show some16 0 a1 = ⟨13, 0, a1⟩ from rfl))
        clear HQ
        rw [show ((0 : Nat) : Int) = 0 from rfl]
        go_wp2_with (first | go_big_skip | go_big_guard | (go_at_call 49; refine (some16_any 0 (by omega) _).mono ?_; rw [if_pos rfl]; rintro _ w9 ⟨rfl, h4⟩; have hst9 := St.call0 hst h4; clear h4 hst))
        go_ret2
        exact ⟨x1, by rw [HQ2.out]; rfl, by rw [HQ2.out]; exact hst9⟩
      · have HC0 := hid hc
        have HQ2 := hid (HQ.out.trans (show some16 cnt a1 = ⟨0, cnt, a1⟩ by unfold some16; rw [if_neg hc]))
        clear HQ
        go_wp2_with (first | go_big_skip | go_big_guard | (go_at_call 49; refine (some16_any cnt (by omega) _).mono ?_; rw [if_neg HC0.out]; rintro _ w9 ⟨rfl, h4⟩; have hst9 := St.call0 hst h4; clear h4 hst))
        go_ret2
        exact ⟨x1, by rw [HQ2.out]; rfl, by rw [HQ2.out]; exact hst9⟩
theorem mflush_any {w0 w : World} {M : List Nat} {R : List HA} {gm ga : Nat} {x : GA} {m : MV} {N : Nat} (hS : St w0 M w (mP gm ga x m ++ R)) (hg : MGood m N) (hN : N ≤ 800000) :
    Calls Try.prog 21 #[PM gm] w fun e w' => ∃ x', e = .returned (.tuple #[.int .i64 m.flush.n, .int .i64 m.flush.er]) ∧ St w0 M w' (mP gm ga x' (m.withA m.flush.a) ++ R) := by
  cases h1 : m.a.out
  · exact flush_on hS hg hN h1
  · exact flush_out hS hg hN h1
end Go.Proofs.Ytmdfbdfijnmhkaa
namespace Go.Proofs.Ytmdfbdfijnmhkaa
set_option linter.unusedVariables false
set_option linter.unusedSimpArgs false
open Go.RowKit Hp
attribute [local irreducible] Go.Calls Go.wpList
set_option maxRecDepth 100000
set_option maxHeartbeats 8000000
end Go.Proofs.Ytmdfbdfijnmhkaa
namespace Go.Proofs.Ytmdfbdfijnmhkaa
set_option linter.unusedVariables false
set_option linter.unusedSimpArgs false
open Go.RowKit Hp
attribute [local irreducible] Go.Calls Go.wpList
set_option maxRecDepth 100000
set_option maxHeartbeats 8000000
def SR.cells (s : SR) : List Value := [.int .i64 s.good, .int .i64 s.he, .int .i64 s.bad, .int .i64 s.lost]
section
attribute [local go_sem ↓] loadedBs8 loadedAs8
attribute [local go_sem] Oper.semAt_some
end
end Go.Proofs.Ytmdfbdfijnmhkaa
namespace Go.Proofs.Ytmdfbdfijnmhkaa
set_option linter.unusedVariables false
set_option linter.unusedSimpArgs false
open Go.RowKit Hp
attribute [local irreducible] Go.Calls Go.wpList
set_option maxRecDepth 100000
set_option maxHeartbeats 4000000
structure MC where
  k : Int
  dev : Int
  p : PV
  bo : Option Addr
  bn : Nat
  bc : Nat
  B : List UInt8
  x : AC
def MC.cells (y : MC) : List Value := .int .i64 y.k :: .int .i64 y.dev :: (y.p.cells ++ (.slice y.bo y.bn y.bc :: y.x.cells))
structure MC.Ok (y : MC) (w : World) : Prop where
  k : in64 y.k
  dev : in64 y.dev
  p : y.p.In w
  rb : Rd w (.slice y.bo y.bn y.bc) 1 y.bn (bytesV y.B)
  lb : y.B.length = y.bn
  x : y.x.Ok w
theorem MC.Ok.old {w0 w : World} {L : List HA} {y : MC} (hst : St w0 [] w L) (h : y.Ok w0) : y.Ok w := ⟨h.k, h.dev, PV.In.old hst h.p, Rd.old hst h.rb, h.lb, h.x.old hst⟩
theorem MC.len {y : MC} (h : L32 y.p.S) : y.cells.length = 45 := by
  unfold MC.cells
  simp only [List.length_cons, List.length_append, PV.len h]
  rfl
theorem MC.ones {w : World} {y : MC} (h : y.Ok w) : y.cells.all (·.oneCell') = true := by
  have h1 := PV.ones h.p
  unfold MC.cells
  simp only [List.all_cons, List.all_append, h1, AC.cells]
  rfl
theorem MC.pc {y : MC} (h : L32 y.p.S) {j : Nat} {v : Value} (hj : y.p.cells[j]? = some v) : y.cells[j + 2]? = some v := by
  unfold MC.cells
  rw [List.getElem?_cons_succ, List.getElem?_cons_succ, List.getElem?_append_left (List.getElem?_eq_some_iff.1 hj).1]
  exact hj
theorem MC.qc {y : MC} (h : L32 y.p.S) (j : Nat) : y.cells[37 + j]? = (.slice y.bo y.bn y.bc :: y.x.cells)[j]? := by
  have e : 37 + j = 35 + j + 1 + 1 := by omega
  unfold MC.cells
  rw [e, List.getElem?_cons_succ, List.getElem?_cons_succ, List.getElem?_append_right (by rw [PV.len h]; omega), PV.len h, Nat.add_sub_cancel_left]
theorem mcs_at : ∀ {xs : List MC} {k : Nat} {x : MC}, (∀ y ∈ xs, L32 y.p.S) → xs[k]? = some x → ∀ j v, x.cells[j]? = some v → (xs.flatMap MC.cells)[k * 45 + j]? = some v
  | y :: xs, 0, x, _, h, j, v, hj => by
    cases h
    rw [List.flatMap_cons, Nat.zero_mul, Nat.zero_add, List.getElem?_append_left (List.getElem?_eq_some_iff.1 hj).1]
    exact hj
  | y :: xs, k + 1, x, hl0, h, j, v, hj => by
    have hl : y.cells.length = 45 := MC.len (hl0 y List.mem_cons_self)
    rw [List.flatMap_cons, List.getElem?_append_right (by rw [hl]; omega), hl, show (k + 1) * 45 + j - 45 = k * 45 + j by omega]
    exact mcs_at (fun y hy => hl0 y (List.mem_cons_of_mem _ hy)) (by simpa using h) j v hj
  | [], _, _, _, h, _, _, _ => by cases h
theorem mcs_range {w : World} {b off n c k : Nat} {xs : List MC} {x : MC} (hl : ∀ y ∈ xs, L32 y.p.S) (h : Rd w (.slice (some ⟨b, off, none⟩) n c) 45 n (xs.flatMap MC.cells)) (hk : xs[k]? = some x) : w.rangeAt b (off + k * 45) x.cells := by
  intro j v hj
  have := h.range (k * 45 + j) v (mcs_at hl hk j v hj)
  rwa [← Nat.add_assoc] at this
def shortM (ys : List MC) (N : Nat) : Prop := N ≤ 100 ∧ ∀ y ∈ ys, y.p.l.length ≤ 20 ∧ y.bn ≤ 300 ∧ y.x.bn ≤ 300 ∧ y.x.kn ≤ 200
theorem accs_snoc (ys : List MC) (k : Nat) (x : MC) (h : ys[k]? = some x) : ((ys.take (k + 1)).map MC.x).flatMap AC.cells = ((ys.take k).map MC.x).flatMap AC.cells ++ x.x.cells := by
  obtain ⟨hk, rfl⟩ := List.getElem?_eq_some_iff.1 h
  rw [List.take_succ_eq_append_getElem hk, List.map_append, List.flatMap_append]
  simp
instance acE16 : TyE Try.prog 58 7 88 := ⟨by kernel_rfl⟩
section
theorem loadedAc (A : Addr) : loadVar 58 A = loadVarH 58 A := rfl
attribute [local go_sem ↓] loadedAc
attribute [local irreducible] Hp.Loads
theorem longM_any (ao : Option Addr) (N c : Nat) (ys : List MC) (w : World) (hv : Rd w (.slice ao N c) 45 N (ys.flatMap MC.cells)) (hN : ys.length = N) (hy : ∀ y ∈ ys, y.Ok w) :
    Calls Try.prog 19 #[.slice ao N c] w fun e w' => (∃ b, e = .returned (.bool b) ∧ (b = false ↔ shortM ys N)) ∧ St w [] w' [] := by
  have hst0 := St.nilRow 58 7 (St.refl w)
  have HN := hid hN
  have HYY := hid hy
  have hb1 := hv.bd.1
  have hb2 := hv.bd.2.1
  clear hN hy
  go_enter Try.func19, Try.ntmps19
  go_wp2_with (first | go_big_skip | go_big_guard | fail)
  go_loopw [3, 4] (fun qv q wr => ∃ k : Nat, k ≤ N ∧ k ≤ 101 ∧ q = .int .i64 k ∧ Hid (∀ j y, j < k → ys[j]? = some y → y.p.l.length ≤ 20 ∧ y.bn ≤ 300) ∧ St w [] wr [.row qv 58 7 k (((ys.take k).map MC.x).flatMap AC.cells)]) (fun _ q _ => 101 - (intOf q).toNat)
  case atStart => exact ⟨0, by omega, by omega, rfl, hid (fun j x hj => absurd hj (Nat.not_lt_zero _)), hst0⟩
  case round =>
    clear hst0
    obtain ⟨k, hk, hk1, rfl, hall, hst⟩ := hrel
    obtain ⟨va, vc, rfl⟩ := St.rowSliceAt [] hst
    have HK := hid hk
    by_cases hkN : k < N
    · by_cases hk2 : k < 101
      · obtain ⟨y, hyk⟩ : ∃ y, ys[k]? = some y := ⟨_, List.getElem?_eq_getElem (by rw [HN.out]; exact hkN)⟩
        obtain ⟨b, off, rfl, _⟩ := hv.at hkN
        have hok := HYY.out y (List.mem_of_getElem? hyk)
        have hra := mcs_range (fun y hy => (HYY.out y hy).p.1) hv hyk
        obtain ⟨hL, po, pn, pc, he, hpr, hpl⟩ := hok.p
        have h3 := hid (show w.cell? ⟨b, off + k * 45 + 2, none⟩ = some (.slice po pn pc) from by have := hra 2 _ (MC.pc hL (j := 0) rfl); rw [he] at this; exact this)
        have h4 := hid (show w.cell? ⟨b, off + k * 45 + 37, none⟩ = some (.slice y.bo y.bn y.bc) from hra 37 _ (MC.qc hL 0))
        have h5 := hid (show w.rangeAt b (off + k * 45 + 38) y.x.cells from fun j v hj => by have := hra (38 + j) v (by rw [show 38 + j = 37 + (j + 1) by omega, MC.qc hL]; exact hj); rwa [← Nat.add_assoc] at this)
        have L3 : Loads Try.prog wr 32 ⟨b, off + k * 45 + 2, none⟩ (.slice po pn pc) := Loads.old hst h3.out
        have L4 : Loads Try.prog wr 30 ⟨b, off + k * 45 + 37, none⟩ (.slice y.bo y.bn y.bc) := Loads.old hst h4.out
        have L5 : Loads Try.prog wr 58 ⟨b, off + k * 45 + 38, none⟩ (.agg (List.toArray y.x.cells)) := Loads.oldA hst rfl h5.out
        have HYK := hid hyk
        have HPL := hid hpl
        have hm1 := hok.rb.bd.1
        have hm2 := hok.rb.bd.2.1
        have hm3 := hpr.bd.1
        have hm4 := hpr.bd.2.1
        have d1 : decide ((k : Int) < (N : Int)) = true := decide_eq_true (by omega)
        have d0 : decide ((k : Int) < 101) = true := decide_eq_true (by omega)
        clear hra hyk hok he hpr hpl
        by_cases g1 : 20 < pn
        · have d2 : decide (20 < (pn : Int)) = true := decide_eq_true (by omega)
          go_wp2_with (first | go_big_skip | go_big_guard | (refine wl_loadE rfl rfl rfl ?_; first | refine ⟨_, L3, ?_⟩ | refine ⟨_, L4, ?_⟩))
          go_ret
          exact ⟨⟨true, rfl, ⟨fun h => (by cases h), fun h => by have := (h.2 y (List.mem_of_getElem? HYK.out)).1; have := HPL.out; omega⟩⟩, hst.nil⟩
        · have d2 : decide (20 < (pn : Int)) = false := decide_eq_false (by omega)
          by_cases g2 : 300 < y.bn
          · have d3 : decide (300 < (y.bn : Int)) = true := decide_eq_true (by omega)
            go_wp2_with (first | go_big_skip | go_big_guard | (refine wl_loadE rfl rfl rfl ?_; first | refine ⟨_, L3, ?_⟩ | refine ⟨_, L4, ?_⟩))
            go_ret
            exact ⟨⟨true, rfl, ⟨fun h => (by cases h), fun h => by have := (h.2 y (List.mem_of_getElem? HYK.out)).2.1; omega⟩⟩, hst.nil⟩
          · have d3 : decide (300 < (y.bn : Int)) = false := decide_eq_false (by omega)
            have z1 : IntKind.i64.wrap ((k : Int) + 1) = (k : Int) + 1 := IntWalk.i64_in _ (by omega)
            go_wp2_with (first | go_big_skip | go_big_guard | (refine wl_loadE rfl rfl rfl ?_; first | refine ⟨_, L3, ?_⟩ | refine ⟨_, L4, ?_⟩ | refine ⟨_, L5, ?_⟩) | (apply wl_bsX [.agg (List.toArray y.x.cells)] y.x.cells hst; rfl; rfl; exact rfl; exact rfl; infer_instance; infer_instance; rfl; rfl; rfl; intro g12 w2 hs2; clear hst) | (apply wl_appX [_] hs2; rfl; rfl; exact rfl; exact rfl; infer_instance; infer_instance; infer_instance; exact (Rd.blk0 hs2 rfl (by decide)); exact rfl; (unfold maxLen; omega); intro v1 w3 hs3 _; clear hs2; obtain ⟨a4, c4, rfl⟩ := St.rowSliceAt [_] hs3))
            go_roundw
            case rel =>
              refine ⟨k + 1, by omega, by omega, rfl, hid (fun j z hj hz => ?_), ?_⟩
              · rcases Nat.lt_or_ge j k with h9 | h9
                · exact hall.out j z h9 hz
                · obtain rfl : j = k := by omega
                  rw [HYK.out] at hz
                  cases hz
                  exact ⟨by rw [HPL.out]; omega, by omega⟩
              · rw [accs_snoc ys k y HYK.out]
                exact St.tl hs3
            case measure => simp [intOf]; omega
      · have d1 : decide ((k : Int) < (N : Int)) = true := decide_eq_true (by omega)
        have d0 : decide ((k : Int) < 101) = false := decide_eq_false (by omega)
        go_wp2_with (first | go_big_skip | go_big_guard | (go_at_call 45; refine (longC_any va k vc _ _ (Rd.row hst (.head _)) (by rw [List.length_map, List.length_take, HN.out]; omega) (fun z hz => by obtain ⟨y, hy, rfl⟩ := List.mem_map.1 hz; exact ((HYY.out y (List.mem_of_mem_take hy)).x).old hst)).mono ?_; rintro _ w9 ⟨⟨bb, rfl, hbb⟩, h4⟩; have hst9 := St.call0 hst h4; have HBB := hid hbb; clear h4 hst hbb))
        go_ret
        exact ⟨⟨bb, rfl, ⟨fun h => absurd (HBB.out.1 h).1 (by omega), fun h => absurd h.1 (by omega)⟩⟩, hst9.nil⟩
    · have e : N = k := by omega
      subst e
      have d1 : decide ((N : Int) < (N : Int)) = false := by simp
      go_wp2_with (first | go_big_skip | go_big_guard | (go_at_call 45; refine (longC_any va N vc _ _ (Rd.row hst (.head _)) (by rw [List.length_map, List.length_take, HN.out]; omega) (fun z hz => by obtain ⟨y, hy, rfl⟩ := List.mem_map.1 hz; exact ((HYY.out y (List.mem_of_mem_take hy)).x).old hst)).mono ?_; rintro _ w9 ⟨⟨bb, rfl, hbb⟩, h4⟩; have hst9 := St.call0 hst h4; have HBB := hid hbb; clear h4 hst hbb))
      go_ret
      refine ⟨⟨bb, rfl, HBB.out.trans ?_⟩, hst9.nil⟩
      rw [List.take_of_length_le (by rw [HN.out]; exact Nat.le_refl _)]
      constructor
      · rintro ⟨h1, h2⟩
        refine ⟨h1, fun y hy => ?_⟩
        obtain ⟨j, hj, rfl⟩ := List.getElem_of_mem hy
        have h3 := hall.out j _ (by rw [← HN.out]; exact hj) (List.getElem?_eq_getElem hj)
        have h4 := h2 _ (List.mem_map_of_mem hy)
        exact ⟨h3.1, h3.2, h4.1, h4.2⟩
      · rintro ⟨h1, h2⟩
        refine ⟨h1, fun z hz => ?_⟩
        obtain ⟨y, hy, rfl⟩ := List.mem_map.1 hz
        exact (h2 y hy).2.2
end
end Go.Proofs.Ytmdfbdfijnmhkaa
namespace Go.Proofs.Ytmdfbdfijnmhkaa
set_option linter.unusedVariables false
set_option linter.unusedSimpArgs false
open Go.ChangeShapes Go.WideShapes Go.ChangeAt Go.RowKit Go.Deep Go.Lib Go.Joins Hp
set_option maxRecDepth 100000
theorem cellsMa : Try.prog.cellsOf 60 = 45 := by kernel_rfl
def MCL : Type := { x : MC // L32 x.p.S }
instance inhMCL : Inhabited MCL := ⟨⟨⟨0, 0, ⟨.slice none 0 0, [], 0, 0, nones⟩, none, 0, 0, [], ⟨0, 0, 0, 0, 0, none, 0, 0, [], none, 0, 0, []⟩⟩, L32.nones⟩⟩
theorem open_actM {H : Type} {enc : TypeId × Value → H} {W : World} (fuel : Nat) (cs : List Value) (x : DataW H × List MemPlace) (hl : cs.length = 45)
    (h : DataW.trod enc Try.prog W 0 (fun _ => true) true fuel 60 cs = some x) : ∃ k : MCL, cs = k.1.cells ∧ k.1.Ok W := by
  obtain ⟨xs, n, _, _, _, hlen, hf⟩ := DataW.trod_struct Try.underlying60 h
  have hlen' : xs.length = 5 := hlen
  have g0 := hf 0 _ rfl
  have g1 := hf 1 _ rfl
  have g2 := hf 2 _ rfl
  have g3 := hf 3 _ rfl
  have g4 := hf 4 _ rfl
  clear hf h
  match xs, hlen' with
  | [y0, y1, y2, y3, y4], _ =>
    match cs, hl with
    | a :: b :: C, hl =>
      have hCl : C.length = 43 := by simpa using hl
      have f0 : DataW.trod enc Try.prog W 0 (fun _ => true) true n 3 (List.take (Try.prog.cellsOf 3) (List.drop 0 (a :: b :: C))) = some y0 := g0
      have f1 : DataW.trod enc Try.prog W 0 (fun _ => true) true n 3 (List.take (Try.prog.cellsOf 3) (List.drop 1 (a :: b :: C))) = some y1 := g1
      have f2 : DataW.trod enc Try.prog W 0 (fun _ => true) true n 36 (List.take (Try.prog.cellsOf 36) (List.drop 2 (a :: b :: C))) = some y2 := g2
      have f3 : DataW.trod enc Try.prog W 0 (fun _ => true) true n 30 (List.take (Try.prog.cellsOf 30) (List.drop 37 (a :: b :: C))) = some y3 := g3
      have f4 : DataW.trod enc Try.prog W 0 (fun _ => true) true n 58 (List.take (Try.prog.cellsOf 58) (List.drop 38 (a :: b :: C))) = some y4 := g4
      obtain ⟨z0, w0, _, u0⟩ := DataW.trod_int Try.underlying3 (show DataW.trod enc Try.prog W 0 (fun _ => true) true n 3 [a] = some y0 from by rw [cellsI] at f0; exact f0)
      obtain ⟨z1, w1, _, u1⟩ := DataW.trod_int Try.underlying3 (show DataW.trod enc Try.prog W 0 (fun _ => true) true n 3 [b] = some y1 from by rw [cellsI] at f1; exact f1)
      obtain ⟨p, w2, hp⟩ := open_ptrD (W := W) (x := y2) (L := C.take 35) (by rw [List.length_take]; omega) (by
        rw [cellsP] at f2
        simpa only [List.drop_succ_cons, List.drop_zero] using f2)
      rw [cellsLub] at f3
      rw [cellsAct] at f4
      simp only [List.drop_succ_cons] at f3 f4
      obtain ⟨bo, bn, bc, B, w3, r3, l3⟩ := open_bytesN f3
      obtain ⟨y, w4, hy⟩ := open_act n _ _ (by rw [List.length_take, List.length_drop]; omega) f4
      have e : C = p.cells ++ (.slice bo bn bc :: y.cells) := by
        have e1 : C.drop 35 = (C.drop 35).take 1 ++ C.drop 36 := by
          conv => lhs; rw [← List.take_append_drop 1 (C.drop 35)]
          rw [List.drop_drop]
        have e2 : (C.drop 36).take 7 = C.drop 36 := List.take_of_length_le (by rw [List.length_drop]; omega)
        rw [e2] at w4
        rw [w3, w4] at e1
        rw [← List.take_append_drop 35 C, w2, e1]
        rfl
      cases w0; cases w1
      subst e
      exact ⟨⟨⟨z0, z1, p, bo, bn, bc, B, y⟩, hp.1⟩, rfl, ⟨i64_wfL u0, i64_wfL u1, hp, r3, l3, hy⟩⟩
theorem open_actMV {H : Type} {enc : TypeId × Value → H} {W : World} {base fuel : Nat} {v : Value} {x : DataW H × List MemPlace} (hv : Value.okWide Try.prog W .any base 60 v)
    (h : DataW.trod enc Try.prog W 0 (fun _ => true) true fuel 60 v.cells.toList = some x) : ∃ a : MC, v = .agg (List.toArray a.cells) ∧ a.Ok W := by
  unfold Value.okWide at hv
  rw [Try.underlying60] at hv
  obtain ⟨cs, rfl, hsz, _⟩ := hv
  rw [cellsMa] at hsz
  obtain ⟨L, rfl⟩ : ∃ L : List Value, cs = L.toArray := ⟨cs.toList, rfl⟩
  have hL : L.length = 45 := by simpa using hsz
  obtain ⟨a, rfl, ha⟩ := open_actM _ _ _ hL h
  exact ⟨a.1, rfl, ha⟩
end Go.Proofs.Ytmdfbdfijnmhkaa
namespace Go.Proofs.Ytmdfbdfijnmhkaa
set_option linter.unusedVariables false
set_option linter.unusedSimpArgs false
open Go.RowKit Hp
attribute [local irreducible] Go.Calls Go.wpList
set_option maxRecDepth 100000
set_option maxHeartbeats 4000000
def NoArr (w : World) (p : Option Addr) : Prop := p = none ∨ ∃ g, p = some ⟨g, 0, none⟩ ∧ w.cell? ⟨g, 0, none⟩ = some (.slice none 0 0)
def NoMir (w : World) (p : Option Addr) : Prop := p = none ∨ ∃ g, p = some ⟨g, 0, none⟩ ∧ w.cell? ⟨g, 0, none⟩ = some (.pointer none)
theorem NoArr.later {w w' : World} {L : List HA} {p : Option Addr} (h : NoArr w p) (hst : St w [] w' L) : NoArr w' p := by
  rcases h with h | ⟨g, hp, hc⟩
  · exact .inl h
  · exact .inr ⟨g, hp, hst.old_cell hc (by simp)⟩
theorem NoMir.later {w w' : World} {L : List HA} {p : Option Addr} (h : NoMir w p) (hst : St w [] w' L) : NoMir w' p := by
  rcases h with h | ⟨g, hp, hc⟩
  · exact .inl h
  · exact .inr ⟨g, hp, hst.old_cell hc (by simp)⟩
theorem arrNone_n {w : World} {p : Option Addr} (h : NoArr w p) : Calls Try.prog 42 #[.pointer p] w fun e w' => e = .returned (.bool true) ∧ St w [] w' [] := by
  have hst := St.refl w
  rcases h with rfl | ⟨g, rfl, hc⟩
  · go_enter Try.func42, Try.ntmps42
    go_wp2_with (first | go_big_skip | go_big_guard | fail)
    go_ret
    exact ⟨rfl, hst⟩
  · have HC := hid hc
    clear hc
    go_enter Try.func42, Try.ntmps42
    go_wp2_with (first | go_big_skip | go_big_guard | (refine wl_loadE rfl rfl rfl ?_; refine ⟨_, Loads.old hst HC.out, ?_⟩))
    go_ret
    exact ⟨rfl, hst⟩
theorem arrDevs_n {w : World} {p : Option Addr} (hN : NoArr w p) : Calls Try.prog 44 #[.pointer p] w fun e w' => e = .returned (.int .i64 0) ∧ St w [] w' [] := by
  have hst := St.refl w
  have HN := hid hN
  clear hN
  go_enter Try.func44, Try.ntmps44
  go_wp2_with (first | go_big_skip | go_big_guard | (go_at_call 42; refine (arrNone_n (HN.out.later hst)).mono ?_; rintro _ w9 ⟨rfl, h4⟩; have hst1 := St.call0 hst h4; clear h4 hst))
  go_ret
  exact ⟨rfl, hst1⟩
theorem mirNew_n {w : World} {p : Option Addr} (hN : NoArr w p) : Calls Try.prog 22 #[.pointer p] w fun e w' => e = .returned (.tuple #[.pointer none, .int .i64 1]) ∧ St w [] w' [] := by
  have hst := St.refl w
  have HN := hid hN
  clear hN
  go_enter Try.func22, Try.ntmps22
  go_wp2_with (first | go_big_skip | go_big_guard | (go_at_call 44; refine (arrDevs_n (HN.out.later hst)).mono ?_; rintro _ w9 ⟨rfl, h4⟩; have hst1 := St.call0 hst h4; clear h4 hst))
  go_ret2
  exact ⟨rfl, hst1⟩
theorem mnone_n {w : World} {p : Option Addr} (h : NoMir w p) : Calls Try.prog 43 #[.pointer p] w fun e w' => e = .returned (.bool true) ∧ St w [] w' [] := by
  have hst := St.refl w
  rcases h with rfl | ⟨g, rfl, hc⟩
  · go_enter Try.func43, Try.ntmps43
    go_wp2_with (first | go_big_skip | go_big_guard | fail)
    go_ret
    exact ⟨rfl, hst⟩
  · have HC := hid hc
    clear hc
    go_enter Try.func43, Try.ntmps43
    go_wp2_with (first | go_big_skip | go_big_guard | (refine wl_loadE rfl rfl rfl ?_; refine ⟨_, Loads.old hst HC.out, ?_⟩))
    go_ret
    exact ⟨rfl, hst⟩
theorem results_cellN {fn : Func} {p : Tmp} {ty : TypeId} {tmps : Array Value} {P : Program} {w : World} {A : Addr} {v : Value} (h : fn.results = #[.cell p ty]) (hp : tmps.getD p undef = .pointer (some A)) (hl : Loads P w ty A v) :
    (results fn tmps).run P w = .ok v w := by
  have hl' : (loadVar ty A).run P w = .ok v w := hl
  have hp' : tmps[p]?.getD undef = .pointer (some A) := by simpa using hp
  simp [results, h, hp', asAddr, hl', Sem.run_bind]
section
theorem loadedPn (A : Addr) : loadVar 36 A = loadVarH 36 A := rfl
attribute [local go_sem ↓] loadedPn
theorem put_n16 {w : World} {p : Option Addr} (hN : NoMir w p) (x y : Value) : Calls Try.prog 20 #[.pointer p, x, y] w fun e w' => e = .returned (.tuple #[.int .i64 0, .int .i64 1]) ∧ St w [] w' [] := by
  have hst := St.refl w
  have HN := hid hN
  clear hN
  go_enter Try.func20, Try.ntmps20
  go_wp2_with (first | go_big_skip | go_big_guard | (go_at_call 43; refine (mnone_n (HN.out.later hst)).mono ?_; rintro _ w9 ⟨rfl, h4⟩; have hst1 := St.call0 hst h4; clear h4 hst))
  go_ret2
  exact ⟨rfl, hst1⟩
theorem flush_n16 {w : World} {p : Option Addr} (hN : NoMir w p) : Calls Try.prog 21 #[.pointer p] w fun e w' => e = .returned (.tuple #[.int .i64 0, .int .i64 1]) ∧ St w [] w' [] := by
  have hst := St.refl w
  have HN := hid hN
  clear hN
  go_enter Try.func21, Try.ntmps21
  go_wp2_with (first | go_big_skip | go_big_guard | (go_at_call 43; refine (mnone_n (HN.out.later hst)).mono ?_; rintro _ w9 ⟨rfl, h4⟩; have hst1 := St.call0 hst h4; clear h4 hst))
  go_ret2
  exact ⟨rfl, hst1⟩
theorem asked_n16 {w : World} {p : Option Addr} (hN : NoMir w p) (sv : Value) (b v : Int) (S : List UInt8) (hL : L32 S) (hs : ∃ ao n c, sv = .slice ao n c) : Calls Try.prog 38 #[.pointer p, .agg (ptrCells sv b v S).toArray] w fun e w' => e = .returned (.int .i64 1) ∧ St w [] w' [] := by
  have hst := St.refl w
  have HN := hid hN
  clear hN
  have HL := hid hL
  clear hL
  go_enter Try.func38, Try.ntmps38
  go_wp2_with (first | go_big_skip | go_big_guard | (refine wl_boxA hst rfl rfl rfl ?_; intro g3 w1 hst1; clear hst) | (go_at_call 43; refine (mnone_n (HN.out.later hst1)).mono ?_; rintro _ w9 ⟨rfl, h4⟩; have hst2 := St.call0 hst1 h4; clear h4 hst1))
  go_ret
  exact ⟨rfl, hst2.nil⟩
theorem get_n16 {w : World} {p : Option Addr} (hN : NoMir w p) (sv : Value) (b v : Int) (S : List UInt8) (hL : L32 S) (hs : ∃ ao n c, sv = .slice ao n c) : Calls Try.prog 15 #[.pointer p, .agg (ptrCells sv b v S).toArray] w fun e w' => e = .returned (.tuple #[.slice none 0 0, .int .i64 1]) ∧ St w [] w' [] := by
  have hst := St.refl w
  have HN := hid hN
  clear hN
  have HL := hid hL
  clear hL
  obtain ⟨ao, n, c, rfl⟩ := hs
  go_enter Try.func15, Try.ntmps15
  go_wp2_with (first | go_big_skip | go_big_guard | (refine wl_boxA hst rfl rfl rfl ?_; intro g3 w1 hst1; clear hst) | (refine wl_loadE rfl rfl rfl ?_; refine ⟨_, Loads.atA (P := Try.prog) (T := 36) (ptrCells (.slice ao n c) b v S) [] hst1 (ptr_len HL.out _ _ _) (ptr_all _ _ _ _), ?_⟩) | (go_at_call 38; refine (asked_n16 (HN.out.later hst1) (.slice ao n c) b v S HL.out ⟨ao, n, c, rfl⟩).mono ?_; rintro _ w9 ⟨rfl, h4⟩; have hst2 := St.call0 hst1 h4; clear h4 hst1))
  go_ret2
  exact ⟨rfl, hst2.nil⟩
theorem restore_n16 {w : World} {p : Option Addr} (hN : NoMir w p) (sv : Value) (b v : Int) (S : List UInt8) (hL : L32 S) (hs : ∃ ao n c, sv = .slice ao n c) (dev : Int) : Calls Try.prog 23 #[.pointer p, .agg (ptrCells sv b v S).toArray, .int .i64 dev] w fun e w' => e = .returned (.int .i64 1) ∧ St w [] w' [] := by
  have hst := St.refl w
  have HN := hid hN
  clear hN
  have HL := hid hL
  clear hL
  obtain ⟨ao, n, c, rfl⟩ := hs
  go_enter Try.func23, Try.ntmps23
  go_wp2_with (first | go_big_skip | go_big_guard | (refine wl_boxA hst rfl rfl rfl ?_; intro g3 w1 hst1; clear hst) | (refine wl_loadE rfl rfl rfl ?_; refine ⟨_, Loads.atA (P := Try.prog) (T := 36) (ptrCells (.slice ao n c) b v S) [] hst1 (ptr_len HL.out _ _ _) (ptr_all _ _ _ _), ?_⟩) | (go_at_call 38; refine (asked_n16 (HN.out.later hst1) (.slice ao n c) b v S HL.out ⟨ao, n, c, rfl⟩).mono ?_; rintro _ w9 ⟨rfl, h4⟩; have hst2 := St.call0 hst1 h4; clear h4 hst1))
  go_ret
  exact ⟨rfl, hst2.nil⟩
theorem scan_n16 {w : World} {p : Option Addr} (hN : NoMir w p) (sv : Value) (b v : Int) (S : List UInt8) (hL : L32 S) (hs : ∃ ao n c, sv = .slice ao n c) : Calls Try.prog 16 #[.pointer p, .agg (ptrCells sv b v S).toArray] w fun e w' => e = .returned (.tuple #[.agg (List.toArray [.int .i64 0, .int .i64 0, .int .i64 0, .int .i64 0]), .int .i64 1]) ∧ St w [] w' [] := by
  have hst := St.refl w
  have HN := hid hN
  clear hN
  have HL := hid hL
  clear hL
  obtain ⟨ao, n, c, rfl⟩ := hs
  go_enter Try.func16, Try.ntmps16
  go_wp2_with (first | go_big_skip | go_big_guard | (refine wl_boxA hst rfl rfl rfl ?_; intro g3 w1 hst1; clear hst) | (refine wl_alloc (T := 48) hst1 rfl rfl ?_; intro g4 w2 hst2; clear hst1) | (refine wl_alloc (T := 39) hst2 rfl rfl ?_; intro g5 w3 hst3; clear hst2) | (refine wl_loadE rfl rfl rfl ?_; refine ⟨_, Loads.atA (P := Try.prog) (T := 36) (ptrCells (.slice ao n c) b v S) [_, _] hst3 (ptr_len HL.out _ _ _) (ptr_all _ _ _ _), ?_⟩) | (go_at_call 38; refine (asked_n16 (HN.out.later hst3) (.slice ao n c) b v S HL.out ⟨ao, n, c, rfl⟩).mono ?_; rintro _ w9 ⟨rfl, h4⟩; have hst4 := St.call0 hst3 h4; clear h4 hst3) | (refine wl_build0 rfl rfl ?_) | (refine wl_storeA [_] hst4 rfl rfl rfl rfl rfl rfl rfl ?_; intro w6 hst5; clear hst4) | (refine wl_store [] hst5 rfl rfl rfl (off := 0) (v := .int _ _) rfl rfl rfl ?_ ?_; (show (0 : Nat) + 1 ≤ 1; decide); intro w7 hst6; clear hst5))
  have l1 := Loads.atA (P := Try.prog) (T := 48) (off := 0) [.int .i64 0, .int .i64 0, .int .i64 0, .int .i64 0] [_] hst6 rfl rfl
  have l2 := Loads.at (P := Try.prog) (T := 39) (off := 0) [] hst6 rfl
  refine bodyPost_ret (results_cell2L rfl rfl rfl l1 l2) rfl ⟨rfl, hst6.nil⟩
theorem errs_n16 {w : World} {p : Option Addr} (hN : NoMir w p) (dev : Int) : Calls Try.prog 18 #[.pointer p, .int .i64 dev] w fun e w' => e = .returned (.agg (List.toArray [.int .i64 0, .int .i64 0, .int .i64 0])) ∧ St w [] w' [] := by
  have hst := St.refl w
  have HN := hid hN
  clear hN
  go_enter Try.func18, Try.ntmps18
  go_wp2_with (first | go_big_skip | go_big_guard | (refine wl_alloc (T := 53) hst rfl rfl ?_; intro g4 w2 hst2; clear hst) | (go_at_call 43; refine (mnone_n (HN.out.later hst2)).mono ?_; rintro _ w9 ⟨rfl, h4⟩; have hst3 := St.call0 hst2 h4; clear h4 hst2) | (refine wl_build0 rfl rfl ?_) | (refine wl_storeA [] hst3 rfl rfl rfl rfl rfl rfl rfl ?_; intro w6 hst5; clear hst3))
  have l1 := Loads.atA (P := Try.prog) (T := 53) (off := 0) [.int .i64 0, .int .i64 0, .int .i64 0] [] hst5 rfl rfl
  refine bodyPost_ret (results_cellN rfl rfl l1) rfl ⟨rfl, hst5.nil⟩
end
end Go.Proofs.Ytmdfbdfijnmhkaa
namespace Go.Proofs.Ytmdfbdfijnmhkaa
set_option linter.unusedVariables false
set_option linter.unusedSimpArgs false
open Go.RowKit Hp
attribute [local irreducible] Go.Calls Go.wpList
set_option maxRecDepth 100000
set_option maxHeartbeats 4000000
def sect (b : UInt8) : List UInt8 := List.replicate 256 b
theorem sect_len (b : UInt8) : (sect b).length = 256 := List.length_replicate
theorem rep_put16 (j n : Nat) (b z : Value) (h : j < n) : putAt (List.replicate j b ++ List.replicate (n - j) z) j [b] = List.replicate (j + 1) b ++ List.replicate (n - (j + 1)) z := by
  have key : n - j = (n - (j + 1)) + 1 := by omega
  rw [putAt_many, key, List.replicate_succ]
  rw [List.take_append_of_le_length (by simp), List.take_of_length_le (by simp), List.drop_append, List.drop_of_length_le (by simp), List.nil_append, List.length_replicate, List.length_singleton, show j + 1 - j = 1 by omega, List.drop_one, List.tail_cons, ← List.append_assoc, List.replicate_succ']
theorem of16_any (b : UInt8) (w : World) : Calls Try.prog 8 #[.int .u8 b.toNat] w fun e w' => ∃ g, e = .returned (.slice (some ⟨g, 0, none⟩) 256 256) ∧ St w [] w' [.blk g 5 (bytesV (sect b))] := by
  have hst0 := St.refl w
  go_enter Try.func8, Try.ntmps8
  go_wp2_with (first | go_big_skip | go_big_guard | (apply wl_make 256 256 hst0; rfl; rfl; exact rfl; exact rfl; infer_instance; infer_instance; infer_instance; exact rfl; exact rfl; decide; decide; intro g _ hst1; clear hst0))
  go_loopw [4] (fun i wr => ∃ j : Nat, j ≤ 256 ∧ i = .int .i64 (j : Int) ∧ St w [] wr [.blk g 5 (List.replicate j (.int .u8 b.toNat) ++ List.replicate (256 - j) (.int .u8 0))]) (fun i _ => 256 - (intOf i).toNat)
  case atStart => exact ⟨0, by decide, rfl, hst1⟩
  case round =>
    clear hst1
    obtain ⟨j, hj, rfl, hst⟩ := hrel
    by_cases hlj : j < 256
    · have d1 : decide ((j : Int) < 256) = true := decide_eq_true (by omega)
      have z1 : IntKind.i64.wrap ((j : Int) + 1) = (j : Int) + 1 := IntWalk.i64_in _ (by omega)
      have HP := hid (rep_put16 j 256 (.int .u8 b.toNat) (.int .u8 0) hlj)
      have HL := hid (show j * 1 + 1 ≤ (List.replicate j (Value.int .u8 b.toNat) ++ List.replicate (256 - j) (Value.int .u8 0)).length by rw [List.length_append, List.length_replicate, List.length_replicate]; omega)
      obtain ⟨CS, hCS⟩ : ∃ CS, CS = List.replicate j (Value.int .u8 b.toNat) ++ List.replicate (256 - j) (Value.int .u8 0) := ⟨_, rfl⟩
      rw [← hCS] at hst HP HL
      clear hCS
      go_wp2_with (first | go_big_skip | go_big_guard | (refine wl_index (k := j) rfl rfl rfl rfl hlj ?_) | (refine wl_store [] hst rfl rfl rfl (v := .int _ _) rfl rfl rfl (by rw [Nat.zero_add]; exact HL.out) ?_; intro w5 hst2; clear hst))
      go_roundw
      case rel =>
        refine ⟨j + 1, by omega, rfl, ?_⟩
        rw [← HP.out]
        rw [Nat.zero_add, Nat.mul_one] at hst2
        exact hst2
      case measure => simp [intOf]; omega
    · have d1 : decide ((j : Int) < 256) = false := decide_eq_false (by omega)
      have hjn : j = 256 := by omega
      subst hjn
      go_wp2_with (first | go_big_skip | go_big_guard | fail)
      go_ret
      refine ⟨g, rfl, ?_⟩
      have e : bytesV (sect b) = List.replicate 256 (.int .u8 b.toNat) := by simp [bytesV, sect]
      rw [e]
      have := hst
      rw [Nat.sub_self, List.replicate_zero, List.append_nil] at this
      exact this
def onDevs (k : Nat) : List (Int × Int) := (List.range k).map fun (i : Nat) => ((i : Int), (5 : Int))
theorem onDevs_len (k : Nat) : (onDevs k).length = k := by simp [onDevs]
theorem onDevs_succ (k : Nat) : onDevs (k + 1) = onDevs k ++ [((k : Int), 5)] := by simp [onDevs, List.range_succ]
theorem ptr_places (ps : List (Nat × Value)) : Try.prog.built 36 ps = Instr.fill (#[(0, 1), (1, 1), (2, 1), (3, 32)][·]?) (Array.mk (.slice none 0 0 :: .int .i64 0 :: .int .i64 0 :: List.replicate 32 (.int .u8 0))) ps := by kernel_rfl
theorem built_ptr {d : Int} {S : List UInt8} (hb : S.length = 32) : Try.prog.built 36 [(1, .int .i64 d), (3, .agg (bytesV S).toArray)] = some (ptrCells (.slice none 0 0) d 0 S).toArray := by
  rw [ptr_places]
  have h1 := fold_set 3 (bytesV S) 0 [.slice none 0 0, .int .i64 d, .int .i64 0] (List.replicate 32 (.int .u8 0)) rfl (by rw [length_bytesV, hb, List.length_replicate]; exact Nat.le_refl _)
  have hl : (bytesV S).length = 32 := by rw [length_bytesV, hb]
  obtain ⟨Z, hZ⟩ : ∃ Z : List Value, Z = List.replicate 32 (.int .u8 0) := ⟨_, rfl⟩
  have hz : Z.length = 32 := by rw [hZ, List.length_replicate]
  rw [← hZ] at h1 ⊢
  have hc : (Value.agg (bytesV S).toArray).cells = (bytesV S).toArray := rfl
  have e0 : Instr.fill (#[(0, 1), (1, 1), (2, 1), (3, 32)][·]?) (Array.mk (.slice none 0 0 :: .int .i64 0 :: .int .i64 0 :: Z)) [(1, .int .i64 d), (3, .agg (bytesV S).toArray)] = Instr.fill (#[(0, 1), (1, 1), (2, 1), (3, 32)][·]?) (Array.mk (.slice none 0 0 :: .int .i64 d :: .int .i64 0 :: Z)) [(3, .agg (bytesV S).toArray)] := by
    simp [Instr.fill, Value.cells]
    omega
  rw [e0]
  simp only [Instr.fill, hc]
  rw [show (#[(0, 1), (1, 1), (2, 1), (3, 32)] : Array (Nat × Nat))[3]? = some (3, 32) from rfl]
  dsimp only
  rw [if_neg (by simp [hb, hz])]
  rw [← Array.foldl_toList, Array.toList_zipIdx]
  have h2 : List.foldl (fun (cs : Array Value) (x : Value × Nat) => match x with | (c, j) => cs.setIfInBounds (3 + j) c) (Array.mk (Value.slice none 0 0 :: Value.int .i64 d :: Value.int .i64 0 :: Z)) (bytesV S).zipIdx = ([Value.slice none 0 0, Value.int .i64 d, Value.int .i64 0] ++ (bytesV S ++ Z.drop (bytesV S).length)).toArray := h1
  rw [List.toList_toArray, h2, hl, List.drop_of_length_le (by omega), List.append_nil]
  rfl
theorem results_cellQ {fn : Func} {p : Tmp} {ty : TypeId} {tmps : Array Value} {P : Program} {w : World} {A : Addr} {v : Value} (h : fn.results = #[.cell p ty]) (hp : tmps.getD p undef = .pointer (some A)) (hl : Loads P w ty A v) :
    (results fn tmps).run P w = .ok v w := by
  have hl' : (loadVar ty A).run P w = .ok v w := hl
  have hp' : tmps[p]?.getD undef = .pointer (some A) := by simpa using hp
  simp [results, h, hp', asAddr, hl', Sem.run_bind]
section
theorem storedPt (A : Addr) (v : Value) : storeVar 36 A v = storeVarH 36 A v := rfl
theorem loadedPt (A : Addr) : loadVar 36 A = loadVarH 36 A := rfl
attribute [local go_sem ↓] storedPt loadedPt
theorem points_any {w0 w : World} {M : List Nat} {L : List HA} (hS : St w0 M w L) (ao : Option Addr) (n c : Nat) (bs : List UInt8) (hr : ∀ w, St w0 M w L → Rd w (.slice ao n c) 1 n (bytesV bs)) (hn : bs.length = n) (hb : n ≤ 100000) (k : Nat) (hk : k ≤ 1000) :
    Calls Try.prog 9 #[.slice ao n c, .int .i64 k] w fun e w' => ∃ sa sc, e = .returned (.agg (ptrCells (.slice sa k sc) 1 0 (sumB bs)).toArray) ∧ St w0 M w' (.row (.slice sa k sc) 83 2 k (addrsV (onDevs k)) :: L) := by
  have hst := hS
  have HR := hid hr
  have HN := hid hn
  obtain ⟨S, hS2⟩ : ∃ S, S = sumB bs := ⟨_, rfl⟩
  have HS2 := hid hS2.symm
  have hs32 : S.length = 32 := by rw [hS2]; exact length_bytesS _
  have HL := hid (show L32 S from hs32)
  have HB := hid (built_ptr (d := 1) hs32)
  rw [← hS2]
  clear hS hr hn hS2 hs32
  go_enter Try.func9, Try.ntmps9
  go_wp2_with (first | go_big_skip | go_big_guard | (refine wl_alloc (T := 36) hst rfl rfl ?_; intro g4 w1 hst1; clear hst) | (go_at_call 14; refine (sum_any ao n c bs _ (HR.out _ (St.tl hst1)) HN.out hb).mono ?_; rw [HS2.out]; rintro _ w2 ⟨rfl, h4⟩; have hst2 := St.call0 hst1 h4; clear h4 hst1) | (refine wl_buildX (cs := ptrCells (.slice none 0 0) 1 0 S) [(1, .int .i64 1), (3, .agg (List.toArray (bytesV S)))] rfl rfl (by exact rfl) (by exact HB.out) ?_) | (refine wl_alloc (T := 36) hst2 rfl rfl ?_; intro g5 w3 hst3; clear hst2) | (refine wl_storeA [] hst3 rfl rfl rfl rfl (ptr_len HL.out _ _ _) (ptr_ones _ _ _ _ _ _) (ptr_len L32.nones _ _ _) ?_; intro w4 hst4; clear hst3))
  have hst5 := St.nilRow 83 2 hst4
  clear hst4
  go_loopw [6] (fun i wr => ∃ j : Nat, j ≤ k ∧ i = .int .i64 (j : Int) ∧ ∃ sv, St w0 M wr (.row sv 83 2 j (addrsV (onDevs j)) :: .blk g5 36 (ptrCells sv 1 0 S) :: .blk g4 36 (ptrCells (.slice none 0 0) 0 0 nones) :: L)) (fun i _ => k - (intOf i).toNat)
  case atStart => exact ⟨0, Nat.zero_le _, rfl, _, hst5⟩
  case round =>
    clear hst5
    obtain ⟨j, hj, rfl, sv, hst⟩ := hrel
    obtain ⟨sa, sc, rfl⟩ := St.rowSliceAt [] hst
    by_cases hlj : j < k
    · have d1 : decide ((j : Int) < (k : Int)) = true := decide_eq_true (by omega)
      have z1 : IntKind.i64.wrap ((j : Int) + 1) = (j : Int) + 1 := IntWalk.i64_in _ (by omega)
      go_wp2_with (first | go_big_skip | go_big_guard | (refine wl_loadE rfl rfl rfl ?_; refine ⟨_, Loads.at (P := Try.prog) [_] hst rfl, ?_⟩) | (refine wl_buildX (cs := [.int .i64 (j : Int), .int .i64 5]) [(0, .int .i64 (j : Int)), (1, .int .i64 5)] rfl rfl (by exact rfl) (by kernel_rfl) ?_) | (apply wl_bsX [.agg (List.toArray [.int .i64 (j : Int), .int .i64 5])] [.int .i64 (j : Int), .int .i64 5] hst; rfl; rfl; exact rfl; exact rfl; infer_instance; infer_instance; rfl; rfl; rfl; intro g12 w2 hs2; clear hst) | (apply wl_appX [_] hs2; rfl; rfl; exact rfl; exact rfl; infer_instance; infer_instance; infer_instance; exact (Rd.blk0 hs2 rfl (by decide)); exact rfl; (unfold maxLen; omega); intro v1 w3 hs3 _; clear hs2; obtain ⟨a4, c4, rfl⟩ := St.rowSliceAt [_] hs3) | (refine wl_store [_, _] hs3 rfl rfl rfl (v := .slice _ _ _) rfl rfl rfl ?_ ?_; exact Nat.le_add_left _ _; intro w4 hs4; clear hs3))
      go_roundw
      case rel =>
        refine ⟨j + 1, by omega, rfl, .slice a4 (j + 1) c4, ?_⟩
        rw [onDevs_succ, addrsV_snoc]
        exact St.tl hs4
      case measure => simp [intOf]; omega
    · have d1 : decide ((j : Int) < (k : Int)) = false := decide_eq_false (by omega)
      have hjn : j = k := by omega
      subst hjn
      go_wp2_with (first | go_big_skip | go_big_guard | (refine wl_loadE rfl rfl rfl ?_; refine ⟨_, Loads.atA (P := Try.prog) (ptrCells (.slice sa j sc) 1 0 S) [_] hst (ptr_len HL.out _ _ _) (ptr_all _ _ _ _), ?_⟩) | (refine wl_storeA [_, _] hst rfl rfl rfl rfl (ptr_len HL.out _ _ _) (ptr_ones _ _ _ _ _ _) (ptr_len L32.nones _ _ _) ?_; intro w4 hst4; clear hst))
      refine bodyPost_ret (results_cellQ rfl rfl (Loads.atA (P := Try.prog) (ptrCells (.slice sa j sc) 1 0 S) [_, _] hst4 (ptr_len HL.out _ _ _) (ptr_all _ _ _ _))) rfl ⟨sa, sc, rfl, St.sub hst4 (.cons_cons _ (.cons _ (.cons _ (List.Sublist.refl _))))⟩
end
end Go.Proofs.Ytmdfbdfijnmhkaa
namespace Go.Proofs.Ytmdfbdfijnmhkaa
set_option linter.unusedVariables false
set_option linter.unusedSimpArgs false
open Go.RowKit Hp
attribute [local irreducible] Go.Calls Go.wpList
set_option maxRecDepth 100000
set_option maxHeartbeats 4000000
theorem wrote_good {m : MV} {b : List UInt8} : ∀ {l : List (Int × Int)} {a : AR} {k N : Nat}, MGood (m.withA a) N → MGood (m.withA (wrote16 b a k l).a) (N + l.length)
  | [], a, k, N, h => by
    unfold wrote16 some16
    split <;> exact h
  | z :: l, a, k, N, h => by
    have h1 : MGood (m.withA (a.write z.1 z.2 b)) (N + 1) := h.arr (h.sc.ok.write _ _ _) (Stays.write _ _ _ _)
    rw [show N + (z :: l).length = N + 1 + l.length by rw [List.length_cons]; omega]
    unfold wrote16
    split
    · exact wrote_good h1
    · split
      · exact h1.mono (Nat.le_add_right _ _)
      · exact wrote_good h1
theorem put_good {m : MV} {N : Nat} (h : MGood m N) (l : List (Int × Int)) (b : List UInt8) : MGood (m.withA (m.put l b).a) (N + l.length) := by
  unfold MV.put
  split
  · exact wrote_good h
  · exact MGood.mono h (Nat.le_add_right _ _)
theorem made16_any (w : World) : Calls Try.prog 6 #[] w fun e w' => ∃ gm ga x gs, e = .returned (.tuple #[.pointer (some ⟨ga, 0, none⟩), PM gm]) ∧ gs.length = 3 ∧ St w [] w' (mP gm ga x ⟨newA 8 gs, zeroE⟩) := by
  have hst0 := St.refl w
  go_enter Try.func6, Try.ntmps6
  go_wp2_with (first | go_big_skip | go_big_guard | (go_at_call 26; refine (newM_any 3 8 (by decide) (by decide) _).mono ?_; rintro _ w1 ⟨ga, x, gs, rfl, hgl, h4⟩; have hst1 : St w [] w1 (arP ga x (newA 8 gs) ++ []) := St.call hst0 h4; have HGL := hid hgl; clear h4 hgl hst0) | (go_at_call 22; refine (mirNew_any hst1 (by intro h; have h2 := congrArg List.length h; rw [show (newA 8 gs).devs.length = 3 from (List.length_map _).trans HGL.out] at h2; cases h2)).mono ?_; rintro _ w2 ⟨gm, rfl, h4⟩; have hst2 : St w [] w2 (mP gm ga x ⟨newA 8 gs, zeroE⟩) := (by rw [List.append_nil] at h4; exact h4); clear h4 hst1; unfold PM))
  go_ret2
  exact ⟨gm, ga, x, gs, rfl, HGL.out, hst2⟩
section
theorem loadedPt2 (A : Addr) : loadVar 36 A = loadVarH 36 A := rfl
attribute [local go_sem ↓] loadedPt2 loadedAs8
theorem puts_any {w0 w : World} {M : List Nat} {R : List HA} {gm ga : Nat} {x : GA} {m : MV} {N : Nat} (hS : St w0 M w (mP gm ga x m ++ R)) (hg : MGood m N) (ao : Option Addr) (n c : Nat) (l : List (Int × Int)) (b v : Int) (S : List UInt8) (hL : L32 S) (hA : ∀ w, St w0 M w R → Rd w (.slice ao n c) 2 n (addrsV l)) (hn : l.length = n) (bo : Option Addr) (bn bc : Nat) (bs : List UInt8) (hb : GB w0 M R (.slice bo bn bc) bn bs) (hN : N + n ≤ 800000) (A1 A2 : AR) (h1 : m.put l bs = ⟨0, n, A1⟩) (h2 : (m.withA A1).flush = ⟨0, 3, A2⟩) :
    Calls Try.prog 10 #[PM gm, .agg (ptrCells (.slice ao n c) b v S).toArray, .slice bo bn bc] w fun e w' => ∃ x', e = .returned (.bool true) ∧ St w0 M w' (mP gm ga x' (m.withA A2) ++ R) := by
  have hst := hS
  have HG := hid hg
  have HL := hid hL
  have HN := hid hn
  have HA := hid hA
  have HB := hid hb
  have HG2 := hid (show MGood (m.withA A1) (N + n) from by have := put_good hg l bs; rw [h1, hn] at this; exact this)
  have H1 := hid h1
  have H2 := hid h2
  clear hS hg hL hn hA hb h1 h2
  unfold PM
  go_enter Try.func10, Try.ntmps10
  go_wp2_with (first | go_big_skip | go_big_guard | (refine wl_boxA hst rfl rfl rfl ?_; intro g3 w1 hst0; clear hst; have hst1 : St w0 M w1 (mP gm ga x m ++ (.blk g3 36 (ptrCells (.slice ao n c) b v S) :: R)) := St.behind (A := mP gm ga x m) hst0; clear hst0) | (refine wl_loadE rfl rfl rfl ?_; first | refine ⟨_, Loads.at (P := Try.prog) [] hst0 rfl, ?_⟩ | refine ⟨_, Loads.blk (P := Try.prog) hst1 TyS.out (List.mem_append_right _ (.head _)) rfl, ?_⟩ | refine ⟨_, Loads.blk (P := Try.prog) hst2 TyS.out (List.mem_append_right _ (.head _)) rfl, ?_⟩ | refine ⟨_, Loads.blk (P := Try.prog) hst3 TyS.out (List.mem_append_right _ (.head _)) rfl, ?_⟩) | (go_at_call 20; have HC := put_any hst1 HG.out ao n c l (fun w h => HA.out w (St.sub h (List.sublist_cons_self _ _))) HN.out bo bn bc bs (GB.more (P := [_]) HB.out) (by omega); rw [H1.out] at HC; refine HC.mono ?_; clear HC; rintro _ w2 ⟨x2, rfl, h4⟩; have hst2 := h4; clear h4 hst1) | (go_at_call 21; have HC := mflush_any hst2 HG2.out hN; rw [H2.out] at HC; refine HC.mono ?_; clear HC; rintro _ w3 ⟨x3, rfl, h4⟩; have hst3 : St w0 M w3 (mP gm ga x3 (m.withA A2) ++ _) := h4; clear h4 hst2))
  go_ret
  exact ⟨x3, rfl, sub_x hst3⟩
theorem gets_any {w0 w : World} {M : List Nat} {R : List HA} {gm ga : Nat} {x : GA} {m : MV} {N : Nat} (hS : St w0 M w (mP gm ga x m ++ R)) (hg : MGood m N) (ao : Option Addr) (n c : Nat) (l : List (Int × Int)) (b v : Int) (S : List UInt8) (hL : L32 S) (hA : ∀ w, St w0 M w R → Rd w (.slice ao n c) 2 n (addrsV l)) (hn : l.length = n) (bo : Option Addr) (bn bc : Nat) (bs : List UInt8) (hb : GB w0 M R (.slice bo bn bc) bn bs) (hN : N + 2 * n ≤ 900000) (hbn : bn ≤ 100000) (m' : MV) (h1 : m.get (PVof ao n c l b v S) = ⟨0, bs, m'⟩) :
    Calls Try.prog 24 #[PM gm, .agg (ptrCells (.slice ao n c) b v S).toArray, .slice bo bn bc] w fun e w' => ∃ x', e = .returned (.bool true) ∧ St w0 M w' (mP gm ga x' m' ++ R) := by
  have hst := hS
  have HG := hid hg
  have HL := hid hL
  have HN := hid hn
  have HA := hid hA
  have HB := hid hb
  have H1 := hid h1
  clear hS hg hL hn hA hb h1
  unfold PM
  go_enter Try.func24, Try.ntmps24
  go_wp2_with (first | go_big_skip | go_big_guard | (refine wl_boxA hst rfl rfl rfl ?_; intro g3 w1 hst0; clear hst; have hst1 : St w0 M w1 (mP gm ga x m ++ (.blk g3 36 (ptrCells (.slice ao n c) b v S) :: R)) := St.behind (A := mP gm ga x m) hst0; clear hst0) | (refine wl_loadE rfl rfl rfl ?_; refine ⟨_, Loads.blkA (P := Try.prog) (T := 36) (vs := ptrCells (.slice ao n c) b v S) hst1 (by rw [ptr_len HL.out]; exact TyA.out) (List.mem_append_right _ (.head _)) (ptr_all _ _ _ _), ?_⟩) | (go_at_call 15; have HC := get_any hst1 HG.out ao n c l b v S HL.out HN.out (fun w h => HA.out w (St.sub h (List.sublist_cons_self _ _))) hN; rw [H1.out] at HC; refine HC.mono ?_; clear HC; rintro _ w2 ⟨u, x2, rfl, h4⟩; obtain ⟨ua, uc, rfl⟩ := St.rowPSlice [] h4; have hst2 := h4; clear h4 hst1) | (go_at_call 13; refine (sameBytes_any _ _ _ _ bs bs _ (Rd.rowP hst2 (.head _)) (HB.out.rd _ (St.sub hst2 (.cons _ ((List.sublist_cons_self _ _).trans (List.sublist_append_right _ _)))))).mono ?_; rw [beq_self_eq_true]; rintro _ w3 ⟨rfl, h4⟩; have hst3 := St.call0 hst2 h4; clear h4 hst2))
  go_ret
  exact ⟨x2, rfl, sub_x (St.tl hst3)⟩
end
end Go.Proofs.Ytmdfbdfijnmhkaa
namespace Go.Proofs.Ytmdfbdfijnmhkaa
set_option linter.unusedVariables false
set_option linter.unusedSimpArgs false
open Go.RowKit Hp
set_option maxRecDepth 100000
set_option maxHeartbeats 4000000
def dk (g : Nat) (s : List UInt8) : DV := ⟨g, [sect 0, sect 0, sect 0, sect 0, sect 0, s, sect 0, sect 0], false, false, false, 0, 0⟩
def AK (p q r : Nat) (a b c : List UInt8) (L : List LW) (st : Int) : AR := ⟨[dk p a, dk q b, dk r c], L, -1, false, st⟩
theorem newA_ak (p q r : Nat) : newA 8 [p, q, r] = AK p q r (sect 0) (sect 0) (sect 0) [] 0 := by kernel_rfl
theorem ak_rE0 (p q r : Nat) (a b c : List UInt8) (L : List LW) (st : Int) : (AK p q r a b c L st).readE 0 5 = 0 := by kernel_rfl
theorem ak_rd0 (p q r : Nat) (a b c : List UInt8) (L : List LW) (st : Int) : (AK p q r a b c L st).read 0 5 = AK p q r a b c L st := by kernel_rfl
theorem ak_rB0 (p q r : Nat) (a b c : List UInt8) (L : List LW) (st : Int) : (AK p q r a b c L st).readB 0 5 = L.foldl (pickW 0 5) a := by kernel_rfl
theorem ak_rE1 (p q r : Nat) (a b c : List UInt8) (L : List LW) (st : Int) : (AK p q r a b c L st).readE 1 5 = 0 := by kernel_rfl
theorem ak_rd1 (p q r : Nat) (a b c : List UInt8) (L : List LW) (st : Int) : (AK p q r a b c L st).read 1 5 = AK p q r a b c L st := by kernel_rfl
theorem ak_rB1 (p q r : Nat) (a b c : List UInt8) (L : List LW) (st : Int) : (AK p q r a b c L st).readB 1 5 = L.foldl (pickW 1 5) b := by kernel_rfl
theorem ak_ask2 (p q r : Nat) (a b c : List UInt8) (L : List LW) (st : Int) (e : List ER) (ao : Option Addr) (cc : Nat) (S : List UInt8) : (⟨AK p q r a b c L st, e⟩ : MV).askE (PVof ao 2 cc (onDevs 2) 1 0 S) = 0 := by kernel_rfl
theorem ak_put2 (p q r : Nat) (a b c : List UInt8) (st : Int) (e : List ER) (x : UInt8) : (⟨AK p q r a b c [] st, e⟩ : MV).put (onDevs 2) (sect x) = ⟨0, 2, AK p q r a b c [⟨0, 5, sect x⟩, ⟨1, 5, sect x⟩] (st + 1 + 1)⟩ := by kernel_rfl
theorem ak_flush2 (p q r : Nat) (a b c : List UInt8) (st : Int) (e : List ER) (x : UInt8) : (⟨AK p q r a b c [⟨0, 5, sect x⟩, ⟨1, 5, sect x⟩] st, e⟩ : MV).flush = ⟨0, 3, AK p q r (sect x) (sect x) c [] (st + 1 + 1 + 1)⟩ := by kernel_rfl
theorem kind_good {m : MV} {dev pl : Int} {S : List UInt8} (h1 : m.a.readE dev pl = 0) (h2 : sumB (m.a.readB dev pl) = S) : m.kind dev pl S = 0 := by
  unfold MV.kind
  rw [h1, if_neg (by decide), if_neg (by simp), if_pos h2]
theorem kind_ill {m : MV} {dev pl : Int} {S : List UInt8} (h1 : m.a.readE dev pl = 0) (h2 : sumB (m.a.readB dev pl) ≠ S) : m.kind dev pl S = 1 := by
  unfold MV.kind
  rw [h1, if_neg (by decide), if_neg (by simp), if_neg h2]
theorem lookd_good {m : MV} {dev pl : Int} {S : List UInt8} (h1 : m.a.readE dev pl = 0) (h2 : sumB (m.a.readB dev pl) = S) (h3 : m.a.read dev pl = m.a) : m.looked dev pl S = m := by
  unfold MV.looked
  rw [kind_good h1 h2, h1, if_neg (by decide), if_neg (by decide), h3]
theorem lookd_ill {m : MV} {dev pl : Int} {S : List UInt8} (h1 : m.a.readE dev pl = 0) (h2 : sumB (m.a.readB dev pl) ≠ S) (h3 : m.a.read dev pl = m.a) : m.looked dev pl S = ⟨m.a, m.e.modify dev.toNat fSm⟩ := by
  unfold MV.looked
  rw [kind_ill h1 h2, h1, if_neg (by decide), if_pos rfl, h3]
theorem found_hit {m : MV} {S : List UInt8} {but : Int} {x : Int × Int} {l ill : List (Int × Int)} (hb : x.1 ≠ but) (h1 : m.a.readE x.1 x.2 = 0) (h2 : sumB (m.a.readB x.1 x.2) = S) (h3 : m.a.read x.1 x.2 = m.a) : found S but m (x :: l) ill = ⟨0, m.a.readB x.1 x.2, ill, m⟩ := by
  conv => lhs; unfold found
  rw [if_neg hb, if_pos (kind_good h1 h2), lookd_good h1 h2 h3]
  unfold MV.lookB
  rw [if_pos (kind_good h1 h2)]
theorem found_miss {m : MV} {S : List UInt8} {but : Int} {x : Int × Int} {l ill : List (Int × Int)} (hb : x.1 ≠ but) (h1 : m.a.readE x.1 x.2 = 0) (h2 : sumB (m.a.readB x.1 x.2) ≠ S) (h3 : m.a.read x.1 x.2 = m.a) : found S but m (x :: l) ill = found S but ⟨m.a, m.e.modify x.1.toNat fSm⟩ l (ill ++ [x]) := by
  conv => lhs; unfold found
  rw [if_neg hb, kind_ill h1 h2, if_neg (by decide), if_pos rfl, lookd_ill h1 h2 h3]
theorem get_eq {m m' : MV} {P : PV} {B : List UInt8} {ill : List (Int × Int)} (ha : m.askE P = 0) (hf : found P.S (-1) m P.l [] = ⟨0, B, ill, m'⟩) : m.get P = ⟨0, B, m'.heals ill B⟩ := by
  unfold MV.get
  rw [ha, if_neg (by simp), hf, if_neg (by simp)]
def spo (s : List UInt8) (place : Nat) (m : UInt8) : List UInt8 := s.set place (s.getD place 0 ^^^ m)
def W2 (p q r : Nat) : MV := ⟨AK p q r (sect 2) (sect 2) (sect 0) [] 5, zeroE⟩
def W3 (p q r : Nat) : MV := ⟨AK p q r (spo (sect 2) 0 1) (sect 2) (sect 0) [] 5, zeroE⟩
def W4 (p q r : Nat) : MV := ⟨AK p q r (spo (sect 2) 0 1) (sect 2) (sect 0) [⟨0, 5, sect 2⟩] 6, [⟨0, 1, 1⟩, ⟨0, 0, 0⟩, ⟨0, 0, 0⟩, ⟨0, 0, 0⟩, ⟨0, 0, 0⟩, ⟨0, 0, 0⟩, ⟨0, 0, 0⟩, ⟨0, 0, 0⟩]⟩
theorem spo_bad : sumB (spo (sect 2) 0 1) ≠ sumB (sect 2) := by decide +kernel
theorem w2_get (p q r : Nat) (ao : Option Addr) (c : Nat) {S : List UInt8} (hS : sumB (sect 2) = S) : (W2 p q r).get (PVof ao 2 c (onDevs 2) 1 0 S) = ⟨0, sect 2, W2 p q r⟩ :=
  get_eq (ak_ask2 ..) (found_hit (x := (0, 5)) (l := [(1, 5)]) (by decide) (ak_rE0 ..) ((congrArg sumB (show (W2 p q r).a.readB 0 5 = sect 2 from ak_rB0 ..)).trans hS) (ak_rd0 ..))
theorem w2_spoil (p q r : Nat) : (W2 p q r).a.spoil 0 5 0 1 = (W3 p q r).a := by kernel_rfl
theorem w2_spoilE (p q r : Nat) : (W2 p q r).a.spoilE 0 5 0 = 0 := by kernel_rfl
theorem w3_get (p q r : Nat) (ao : Option Addr) (c : Nat) {S : List UInt8} (hS : sumB (sect 2) = S) : (W3 p q r).get (PVof ao 2 c (onDevs 2) 1 0 S) = ⟨0, sect 2, W4 p q r⟩ := by
  have h1 : found S (-1) (W3 p q r) (onDevs 2) [] = ⟨0, sect 2, [(0, 5)], ⟨(W3 p q r).a, (W3 p q r).e.modify 0 fSm⟩⟩ := by
    refine (found_miss (x := (0, 5)) (l := [(1, 5)]) (by decide) (ak_rE0 ..) (by rw [show (W3 p q r).a.readB 0 5 = spo (sect 2) 0 1 from ak_rB0 .., ← hS]; exact spo_bad) (ak_rd0 ..)).trans ?_
    exact found_hit (x := (1, 5)) (l := []) (by decide) (ak_rE1 ..) ((congrArg sumB (show (W3 p q r).a.readB 1 5 = sect 2 from ak_rB1 ..)).trans hS) (ak_rd1 ..)
  refine (get_eq (ak_ask2 ..) h1).trans ?_
  kernel_rfl
theorem w4_rE (p q r : Nat) : (W4 p q r).a.readE 0 5 = 0 := ak_rE0 ..
theorem w4_rB (p q r : Nat) : (W4 p q r).a.readB 0 5 = sect 2 := by kernel_rfl
theorem w4_rd (p q r : Nat) : (W4 p q r).a.read 0 5 = (W4 p q r).a := ak_rd0 ..
theorem w4_e0 (p q r : Nat) : (W4 p q r).errs 0 = ⟨0, 1, 1⟩ := by kernel_rfl
theorem w4_e1 (p q r : Nat) : (W4 p q r).errs 1 = ⟨0, 0, 0⟩ := by kernel_rfl
end Go.Proofs.Ytmdfbdfijnmhkaa
namespace Go.Proofs.Ytmdfbdfijnmhkaa
set_option linter.unusedVariables false
set_option linter.unusedSimpArgs false
open Go.RowKit
namespace Hp
variable {P : Program}
theorem eqFields_ints {w : World} {q : IntKind} (d : Nat) (l k : List Int) : ∀ (fs : List Field) (s : Nat), (∀ i f, fs[i]? = some f → f.name ≠ "_" ∧ f.offset = s + i ∧ ∃ c, P.underlying f.type = some (.int c)) → l.length = s + fs.length → k.length = s + fs.length →
    (Op.eqFields (d + 1) (intsV q l).toArray (intsV q k).toArray fs).run P w = .ok (l.drop s == k.drop s) w
  | [], s, _, h1, h2 => by
    rw [List.drop_of_length_le (by simp at h1; omega), List.drop_of_length_le (by simp at h2; omega)]
    simp [Op.eqFields]
  | f :: fs, s, hall, h1, h2 => by
    obtain ⟨n1, o1, c, u1⟩ := hall 0 f rfl
    have ih := eqFields_ints (w := w) (q := q) d l k fs (s + 1) (fun i g hg => by
      have := hall (i + 1) g (by simpa using hg)
      rw [show s + 1 + i = s + (i + 1) by omega]; exact this) (by simp at h1; omega) (by simp at h2; omega)
    have hs1 : s < l.length := by simp at h1; omega
    have hs2 : s < k.length := by simp at h2; omega
    have hl : l.drop s = l.getD s 0 :: l.drop (s + 1) := by rw [List.drop_eq_getElem_cons hs1]; simp [List.getD, hs1]
    have hk : k.drop s = k.getD s 0 :: k.drop (s + 1) := by rw [List.drop_eq_getElem_cons hs2]; simp [List.getD, hs2]
    have hp : ∀ u : List Int, s < u.length → (part f.type (intsV q u).toArray s).run P w = .ok (.int q (u.getD s 0)) w := fun u hu =>
      run_part_int u1 (by simp [intsV, List.getD, hu])
    rw [hl, hk]
    simp only [Op.eqFields, n1, ne_eq, not_false_eq_true, if_true, Sem.run_bind, o1, Nat.add_zero, hp l hs1, hp k hs2, Result.andThen_ok, run_equalIn_int w d f.type q c _ _ u1]
    rw [List.cons_beq_cons]
    cases hb : (l.getD s 0 == k.getD s 0)
    · simp
    · simp [ih]
def siok (P : Program) (T : TypeId) (n : Nat) : Bool := match P.underlying T with
  | some (.struct fs) => fs.toList.length == n && ((List.range n).all (fun i => match fs.toList[i]? with
    | some f => f.name != "_" && f.offset == i && (match P.underlying f.type with | some (.int _) => true | _ => false)
    | none => false)) && !(P.stoodInHeld T) && !(P.eqGuardType P.depth T)
  | _ => false
class TySI (P : Program) (T : TypeId) (n : outParam Nat) : Prop where
  out : siok P T n = true
theorem si_spec {T : TypeId} {n : Nat} (h : siok P T n = true) : P.underlying T = some (.struct (P.fieldsOf T)) ∧ (P.fieldsOf T).toList.length = n ∧ (∀ i f, (P.fieldsOf T).toList[i]? = some f → f.name ≠ "_" ∧ f.offset = 0 + i ∧ ∃ c, P.underlying f.type = some (.int c)) ∧ P.stoodInHeld T = false ∧ P.eqGuardType P.depth T = false := by
  unfold siok at h
  cases hu : P.underlying T with
  | none => simp [hu] at h
  | some d =>
    cases d with
    | struct fs =>
      have hf : P.fieldsOf T = fs := by simp [Program.fieldsOf, hu]
      simp only [hu] at h
      rw [hf]
      simp only [Bool.and_eq_true, beq_iff_eq, Bool.not_eq_true'] at h
      obtain ⟨⟨⟨h1, h2⟩, h3⟩, h4⟩ := h
      refine ⟨rfl, h1, fun i f hi => ?_, h3, h4⟩
      have hlt := (List.getElem?_eq_some_iff.1 hi).1
      have := List.all_eq_true.1 h2 i (by rw [List.mem_range]; omega)
      rw [hi] at this
      simp only [Bool.and_eq_true, bne_iff_ne, ne_eq, beq_iff_eq] at this
      refine ⟨this.1.1, by omega, ?_⟩
      cases hk : P.underlying f.type with
      | none => simp [hk] at this
      | some q => cases q <;> first | (simp [hk] at this; done) | exact ⟨_, rfl⟩
    | _ => simp [hu] at h
theorem run_eqlSI {w : World} {T : TypeId} {n : Nat} {q : IntKind} [h : TySI P T n] (l k : List Int) (hl : l.length = n) (hk : k.length = n) :
    (binOp .eql T (.agg (intsV q l).toArray) (.agg (intsV q k).toArray)).run P w = .ok (.bool (l == k)) w := by
  obtain ⟨hu, h1, h2, h3, _⟩ := si_spec h.out
  rw [run_eql_struct, show (10000 : Nat) = 9999 + 1 from rfl, run_equalIn_struct w 9999 T _ _ hu h3, eqFields_ints 9998 l k _ 0 h2 (by omega) (by omega)]
  rfl
theorem run_neqSI {w : World} {T : TypeId} {n : Nat} {q : IntKind} [h : TySI P T n] (l k : List Int) (hl : l.length = n) (hk : k.length = n) :
    (binOp .neq T (.agg (intsV q l).toArray) (.agg (intsV q k).toArray)).run P w = .ok (.bool (!(l == k))) w := by
  obtain ⟨hu, h1, h2, h3, _⟩ := si_spec h.out
  rw [run_neq_struct, show (10000 : Nat) = 9999 + 1 from rfl, run_equalIn_struct w 9999 T _ _ hu h3, eqFields_ints 9998 l k _ 0 h2 (by omega) (by omega)]
  rfl
theorem run_guardSI {w : World} {T : TypeId} {n : Nat} [h : TySI P T n] (op : BinOp) (x y : Operand) (xs ys : Array Value) : (eqGuard op T x y (.agg xs) (.agg ys)).run P w = .ok () w := by
  obtain ⟨hu, h1, h2, h3, hg⟩ := si_spec h.out
  unfold eqGuard
  cases op <;> simp [Sem.run_bind, hg]
end Hp
end Go.Proofs.Ytmdfbdfijnmhkaa
namespace Go.Proofs.Ytmdfbdfijnmhkaa
set_option linter.unusedVariables false
set_option linter.unusedSimpArgs false
open Go.RowKit Hp
attribute [local irreducible] Go.Calls Go.wpList
set_option maxRecDepth 100000
set_option maxHeartbeats 8000000
theorem gb_sect {w0 : World} {M : List Nat} {R : List HA} {g : Nat} {b : UInt8} (hm : HA.blk g 5 (bytesV (sect b)) ∈ R) : GB w0 M R (.slice (some ⟨g, 0, none⟩) 256 256) 256 (sect b) :=
  GB.blk hm (sect_len b) (List.take_of_length_le (by rw [sect_len]; exact Nat.le_refl _)) (Nat.le_refl _) (by decide)
theorem dk_fine {g : Nat} {s : List UInt8} (h : s.length = 256) : (dk g s).Fine 8 := by
  refine ⟨rfl, fun t ht => ?_, (fun h => by cases h), Int.le_refl _, by show (0 : Int) ≤ _; decide⟩
  have h0 := sect_len 0
  simp only [dk, List.mem_cons, List.not_mem_nil, or_false] at ht
  rcases ht with rfl | rfl | rfl | rfl | rfl | rfl | rfl | rfl <;> assumption
theorem ak_ok {p q r : Nat} {a b c : List UInt8} {L : List LW} {st : Int} (ha : a.length = 256) (hb : b.length = 256) (hc : c.length = 256) (hL : ∀ w ∈ L, w.dev < 3 ∧ w.pl < 8 ∧ w.b.length = 256) : (AK p q r a b c L st).Ok := by
  refine ⟨(fun h => by cases h), by show 3 ≤ 8; decide, by show 8 ≤ 4096; decide, fun d hd => ?_, hL, ⟨Int.le_refl _, by show (-1 : Int) ≤ _; decide⟩⟩
  simp only [AK, List.mem_cons, List.not_mem_nil, or_false] at hd
  rcases hd with rfl | rfl | rfl
  · exact dk_fine ha
  · exact dk_fine hb
  · exact dk_fine hc
theorem ak_good {p q r : Nat} {a b c : List UInt8} {L : List LW} {st : Int} {e : List ER} {N : Nat} (ha : a.length = 256) (hb : b.length = 256) (hc : c.length = 256) (hL : ∀ w ∈ L, w.dev < 3 ∧ w.pl < 8 ∧ w.b.length = 256) (hs : 0 ≤ st ∧ st ≤ (N : Int)) (hl : L.length ≤ N) (he : e.length = 8) (hn : ∀ x ∈ e, 0 ≤ x.rd ∧ x.rd ≤ N ∧ 0 ≤ x.sm ∧ x.sm ≤ N ∧ 0 ≤ x.he ∧ x.he ≤ N) : MGood ⟨AK p q r a b c L st, e⟩ N :=
  ⟨⟨ak_ok ha hb hc hL, by show 8 ≤ 8; decide, hs, hl⟩, he, hn⟩
theorem spo_len {s : List UInt8} {k : Nat} {m : UInt8} (h : s.length = 256) : (spo s k m).length = 256 := by unfold spo; rw [List.length_set, h]
theorem zeroE_ok (N : Nat) : ∀ x ∈ zeroE, 0 ≤ x.rd ∧ x.rd ≤ N ∧ 0 ≤ x.sm ∧ x.sm ≤ N ∧ 0 ≤ x.he ∧ x.he ≤ N := by
  intro x hx
  rw [List.eq_of_mem_replicate hx]
  exact ⟨Int.le_refl _, Int.natCast_nonneg _, Int.le_refl _, Int.natCast_nonneg _, Int.le_refl _, Int.natCast_nonneg _⟩
def W0 (p q r : Nat) : MV := ⟨AK p q r (sect 0) (sect 0) (sect 0) [] 0, zeroE⟩
theorem w0_good (p q r : Nat) : MGood (W0 p q r) 10 := ak_good (sect_len _) (sect_len _) (sect_len _) (by simp) (by decide) (by decide) rfl (zeroE_ok _)
theorem w2_good (p q r : Nat) : MGood (W2 p q r) 10 := ak_good (sect_len _) (sect_len _) (sect_len _) (by simp) (by decide) (by decide) rfl (zeroE_ok _)
theorem w3_good (p q r : Nat) : MGood (W3 p q r) 10 := ak_good (spo_len (sect_len _)) (sect_len _) (sect_len _) (by simp) (by decide) (by decide) rfl (zeroE_ok _)
theorem w4_good (p q r : Nat) : MGood (W4 p q r) 10 := ak_good (spo_len (sect_len _)) (sect_len _) (sect_len _) (by intro w hw; rw [List.mem_singleton.1 hw]; exact ⟨by decide, by decide, sect_len _⟩) (by decide) (by decide) rfl (by
  intro x hx
  simp only [List.mem_cons, List.not_mem_nil, or_false] at hx
  rcases hx with rfl | rfl | rfl | rfl | rfl | rfl | rfl | rfl <;> decide)
instance sI16e : TySI Try.prog 53 3 := ⟨by kernel_rfl⟩
theorem eqlErr (a b c a' b' c' : Int) (w : World) : (binOp .eql 53 (.agg #[.int .i64 a, .int .i64 b, .int .i64 c]) (.agg #[.int .i64 a', .int .i64 b', .int .i64 c'])).run Try.prog w = .ok (.bool (([a, b, c] : List Int) == [a', b', c'])) w := run_eqlSI (P := Try.prog) (T := 53) (q := .i64) [a, b, c] [a', b', c'] rfl rfl
theorem guardErr (op : BinOp) (x y : Operand) (xs ys : Array Value) (w : World) : (eqGuard op 53 x y (.agg xs) (.agg ys)).run Try.prog w = .ok () w := run_guardSI op x y xs ys
section
attribute [local go_sem ↓] loadedPt storedPt eqlErr guardErr
theorem awake16_any (w : World) : Calls Try.prog 5 #[] w fun e w' => e = .returned (.bool true) ∧ St w [] w' [] := by
  have hst := St.refl w
  obtain ⟨S, hS⟩ : ∃ S, S = sumB (sect 2) := ⟨_, rfl⟩
  have HS := hid hS.symm
  have HL := hid (show L32 S from by rw [hS]; exact length_bytesS _)
  clear hS
  go_enter Try.func5, Try.ntmps5
  go_wp2_with (first | go_big_skip | go_big_guard | (go_at_call 6; refine (made16_any _).mono ?_; rintro _ _ ⟨gm, ga, x0, gs, rfl, hg, h4⟩; obtain ⟨p, q, r, rfl⟩ : ∃ p q r, gs = [p, q, r] := (match gs, hg with | [p, q, r], _ => ⟨p, q, r, rfl⟩); have hm0 : St w [] _ (mP gm ga x0 (W0 p q r) ++ []) := (by have h5 := St.call hst h4; rw [newA_ak] at h5; exact h5); clear h4 hg hst; unfold PM))
  go_wp2_with (first | go_big_skip | go_big_guard | (go_at_call 8; refine (of16_any 2 _).mono ?_; rintro _ _ ⟨gb, rfl, h4⟩; have hm1 := St.behind (A := (mP gm ga x0 (W0 p q r))) (St.call hm0 h4); clear h4 hm0) | (go_at_call 9; have HC := points_any hm1 (some ⟨gb, 0, none⟩) 256 256 (sect 2) (gb_sect (List.mem_append_right _ (.head _))).rd (sect_len _) (by decide) 2 (by omega); rw [HS.out] at HC; refine HC.mono ?_; clear HC; rintro _ _ ⟨sa, sc, rfl, h4⟩; have hm2 := St.behind (A := (mP gm ga x0 (W0 p q r))) h4; clear h4 hm1) | (refine wl_alloc (T := 36) hm2 rfl rfl ?_; intro gp _ hm3; clear hm2) | (refine wl_storeA [] hm3 rfl rfl rfl rfl (ptr_len HL.out _ _ _) (ptr_ones _ _ _ _ _ _) (ptr_len L32.nones _ _ _) ?_; intro _ hm4; clear hm3; have hm5 := St.behind (A := (mP gm ga x0 (W0 p q r))) hm4; clear hm4))
  have hX := hm5.drew
  clear hm5
  refine wp_region_held_drew (S := (fun w' => (loadVarH 36 ⟨gp, 0, none⟩).run Try.prog w' = .ok (.agg (List.toArray (ptrCells (.slice sa 2 sc) 1 0 S))) w')) (by kernel_rfl) (by exact Loads.blkA (P := Try.prog) (T := 36) (vs := (ptrCells (.slice sa 2 sc) 1 0 S)) hX (by rw [ptr_len HL.out]; exact TyA.out) (List.mem_append_right _ (.head _)) (ptr_all _ _ _ _)) (fun hHeld => ?_)
  refine wpAnyH_take (i := 0) (oi := ⟨some 18, _, _, _, _, _⟩) (v := ?_) rfl (by kernel_rfl) (by kernel_rfl) (by kernel_rfl) (fun _ _ _ h => h) (Or.inl ⟨by rfl, ?_⟩) (by assumption) ?_
  rotate_left
  · intro w hSw; (try dsimp only at hSw); go_simp; try with_reducible rfl
  (try simp only [Act.put, List.setIfInBounds_toArray, List.set_cons_zero, List.set_cons_succ])
  refine wpAnyH_take (i := 1) (oi := ⟨some 19, _, _, _, _, _⟩) (v := ?_) rfl (by kernel_rfl) (by kernel_rfl) (by kernel_rfl) (fun _ _ _ h => h) (Or.inl ⟨by rfl, ?_⟩) (by assumption) ?_
  rotate_left
  · intro w hSw; (try dsimp only at hSw); go_simp; try with_reducible rfl
  (try simp only [Act.put, List.setIfInBounds_toArray, List.set_cons_zero, List.set_cons_succ])
  refine wpAnyH_ready (rs := [2]) (by kernel_rfl) (by simp) ?_
  refine (AllReadyH.cons (o := ⟨some 20, _, _, _, _, _⟩) rfl (fun K hK => ?_) AllReadyH.nil)
  rw [if_pos (by rfl)]
  go_simp
  go_at_call 8
  refine (of16_any 2 _).mono ?_
  rintro _ _ ⟨g1, rfl, h4⟩
  have hm6 := St.behind (A := (mP gm ga x0 (W0 p q r))) (St.call hX h4)
  clear h4 hX
  refine hK.out _ _ ?_ (fun hHeld => ?_)
  · exact Loads.blkA (P := Try.prog) (T := 36) (vs := (ptrCells (.slice sa 2 sc) 1 0 S)) hm6 (by rw [ptr_len HL.out]; exact TyA.out) (List.mem_append_right _ (.tail _ (.head _))) (ptr_all _ _ _ _)
  clear hK K
  (try simp only [Act.put, List.setIfInBounds_toArray, List.set_cons_zero, List.set_cons_succ])
  refine wpAnyH_ready (rs := [3]) (by kernel_rfl) (by simp) ?_
  refine (AllReadyH.cons (o := ⟨some 21, _, _, _, _, _⟩) rfl (fun K hK => ?_) AllReadyH.nil)
  rw [if_pos (by rfl)]
  go_simp
  go_at_call 10
  have HC := puts_any hm6 (w0_good p q r) sa 2 sc (onDevs 2) 1 0 S HL.out (fun _ h => Rd.row h (.tail _ (.tail _ (.head _)))) (onDevs_len _) (some ⟨g1, 0, none⟩) 256 256 _ (gb_sect (.head _)) (by omega) _ _ (ak_put2 ..) (ak_flush2 ..)
  refine HC.mono ?_
  clear HC
  rintro _ _ ⟨y7, rfl, h4⟩
  have hm8 : St _ _ _ ((mP gm ga y7 (W2 p q r)) ++ _) := h4
  clear h4 hm6
  refine hK.out _ _ ?_ (fun hHeld => ?_)
  · exact Loads.blkA (P := Try.prog) (T := 36) (vs := (ptrCells (.slice sa 2 sc) 1 0 S)) hm8 (by rw [ptr_len HL.out]; exact TyA.out) (List.mem_append_right _ (.tail _ (.head _))) (ptr_all _ _ _ _)
  clear hK K
  (try simp only [Act.put, List.setIfInBounds_toArray, List.set_cons_zero, List.set_cons_succ])
  refine wpAnyH_take (i := 4) (oi := ⟨some 22, _, _, _, _, _⟩) (v := ?_) rfl (by kernel_rfl) (by kernel_rfl) (by kernel_rfl) (fun _ _ _ h => h) (Or.inl ⟨by rfl, ?_⟩) (by assumption) ?_
  rotate_left
  · intro w hSw; (try dsimp only at hSw); go_simp; try with_reducible rfl
  (try simp only [Act.put, List.setIfInBounds_toArray, List.set_cons_zero, List.set_cons_succ])
  refine wpAnyH_take (i := 5) (oi := ⟨some 23, _, _, _, _, _⟩) (v := ?_) rfl (by kernel_rfl) (by kernel_rfl) (by kernel_rfl) (fun _ _ _ h => h) (Or.inl ⟨by rfl, ?_⟩) (by assumption) ?_
  rotate_left
  · intro w hSw; (try dsimp only at hSw); go_simp; try with_reducible rfl
  (try simp only [Act.put, List.setIfInBounds_toArray, List.set_cons_zero, List.set_cons_succ])
  refine wpAnyH_take (i := 6) (oi := ⟨some 24, _, _, _, _, _⟩) (v := ?_) rfl (by kernel_rfl) (by kernel_rfl) (by kernel_rfl) (fun _ _ _ h => h) (Or.inl ⟨by rfl, ?_⟩) (by assumption) ?_
  rotate_left
  · intro w hSw; (try dsimp only at hSw); go_simp; try with_reducible rfl
  (try simp only [Act.put, List.setIfInBounds_toArray, List.set_cons_zero, List.set_cons_succ])
  refine wpAnyH_take (i := 7) (oi := ⟨some 25, _, _, _, _, _⟩) (v := ?_) rfl (by kernel_rfl) (by kernel_rfl) (by kernel_rfl) (fun _ _ _ h => h) (Or.inl ⟨by rfl, ?_⟩) (by assumption) ?_
  rotate_left
  · intro w hSw; (try dsimp only at hSw); go_simp; try with_reducible rfl
  (try simp only [Act.put, List.setIfInBounds_toArray, List.set_cons_zero, List.set_cons_succ])
  refine wpAnyH_ready (rs := [8]) (by kernel_rfl) (by simp) ?_
  refine (AllReadyH.cons (o := ⟨some 26, _, _, _, _, _⟩) rfl (fun K hK => ?_) AllReadyH.nil)
  rw [if_pos (by rfl)]
  go_simp
  go_at_call 8
  refine (of16_any 2 _).mono ?_
  rintro _ _ ⟨g2, rfl, h4⟩
  have hm9 := St.behind (A := (mP gm ga y7 (W2 p q r))) (St.call hm8 h4)
  clear h4 hm8
  refine hK.out _ _ ?_ (fun hHeld => ?_)
  · exact Loads.blkA (P := Try.prog) (T := 36) (vs := (ptrCells (.slice sa 2 sc) 1 0 S)) hm9 (by rw [ptr_len HL.out]; exact TyA.out) (List.mem_append_right _ (.tail _ (.tail _ (.head _)))) (ptr_all _ _ _ _)
  clear hK K
  (try simp only [Act.put, List.setIfInBounds_toArray, List.set_cons_zero, List.set_cons_succ])
  refine wpAnyH_ready (rs := [9]) (by kernel_rfl) (by simp) ?_
  refine (AllReadyH.cons (o := ⟨some 27, _, _, _, _, _⟩) rfl (fun K hK => ?_) AllReadyH.nil)
  rw [if_pos (by rfl)]
  go_simp
  go_at_call 24
  have HC := gets_any hm9 (w2_good p q r) sa 2 sc (onDevs 2) 1 0 S HL.out (fun _ h => Rd.row h (.tail _ (.tail _ (.tail _ (.head _))))) (onDevs_len _) (some ⟨g2, 0, none⟩) 256 256 _ (gb_sect (.head _)) (by omega) (by decide) _ (w2_get p q r _ _ HS.out)
  refine HC.mono ?_
  clear HC
  rintro _ _ ⟨y10, rfl, h4⟩
  have hm11 : St _ _ _ ((mP gm ga y10 (W2 p q r)) ++ _) := h4
  clear h4 hm9
  refine hK.out _ _ ?_ (fun hHeld => ?_)
  · exact Loads.blkA (P := Try.prog) (T := 36) (vs := (ptrCells (.slice sa 2 sc) 1 0 S)) hm11 (by rw [ptr_len HL.out]; exact TyA.out) (List.mem_append_right _ (.tail _ (.tail _ (.head _)))) (ptr_all _ _ _ _)
  clear hK K
  (try simp only [Act.put, List.setIfInBounds_toArray, List.set_cons_zero, List.set_cons_succ])
  refine wpAnyH_take (i := 10) (oi := ⟨some 28, _, _, _, _, _⟩) (v := ?_) rfl (by kernel_rfl) (by kernel_rfl) (by kernel_rfl) (fun _ _ _ h => h) (Or.inl ⟨by rfl, ?_⟩) (by assumption) ?_
  rotate_left
  · intro w hSw; (try dsimp only at hSw); go_simp; try with_reducible rfl
  (try simp only [Act.put, List.setIfInBounds_toArray, List.set_cons_zero, List.set_cons_succ])
  refine wpAnyH_take (i := 11) (oi := ⟨some 29, _, _, _, _, _⟩) (v := ?_) rfl (by kernel_rfl) (by kernel_rfl) (by kernel_rfl) (fun _ _ _ h => h) (Or.inl ⟨by rfl, ?_⟩) (by assumption) ?_
  rotate_left
  · intro w hSw; (try dsimp only at hSw); go_simp; try with_reducible rfl
  (try simp only [Act.put, List.setIfInBounds_toArray, List.set_cons_zero, List.set_cons_succ])
  refine wpAnyH_take (i := 12) (oi := ⟨some 30, _, _, _, _, _⟩) (v := ?_) rfl (by kernel_rfl) (by kernel_rfl) (by kernel_rfl) (fun _ _ _ h => h) (Or.inl ⟨by rfl, ?_⟩) (by assumption) ?_
  rotate_left
  · intro w hSw; (try dsimp only at hSw); go_simp; try with_reducible rfl
  (try simp only [Act.put, List.setIfInBounds_toArray, List.set_cons_zero, List.set_cons_succ])
  refine wpAnyH_take (i := 13) (oi := ⟨some 31, _, _, _, _, _⟩) (v := ?_) rfl (by kernel_rfl) (by kernel_rfl) (by kernel_rfl) (fun _ _ _ h => h) (Or.inl ⟨by rfl, ?_⟩) (by assumption) ?_
  rotate_left
  · intro w hSw; (try dsimp only at hSw); go_simp; try with_reducible rfl
  (try simp only [Act.put, List.setIfInBounds_toArray, List.set_cons_zero, List.set_cons_succ])
  refine wpAnyH_ready (rs := [14]) (by kernel_rfl) (by simp) ?_
  refine (AllReadyH.cons (o := ⟨some 32, _, _, _, _, _⟩) rfl (fun K hK => ?_) AllReadyH.nil)
  rw [if_pos (by rfl)]
  go_simp
  go_at_call 11
  have HC := spoilM_any (mid_in (P := [_]) (Bs := []) hm11) (w2_good p q r).sc.ok 0 5 0 1
  rw [w2_spoil, w2_spoilE] at HC
  refine HC.mono ?_
  clear HC
  rintro _ _ ⟨rfl, xs, h4⟩
  have hm12 : St _ _ _ ((mP gm ga xs (W3 p q r)) ++ _) := mid_out (P := [_]) (Bs := []) hm11 h4
  clear h4 hm11
  refine hK.out _ _ ?_ (fun hHeld => ?_)
  · exact Loads.blkA (P := Try.prog) (T := 36) (vs := (ptrCells (.slice sa 2 sc) 1 0 S)) hm12 (by rw [ptr_len HL.out]; exact TyA.out) (List.mem_append_right _ (.tail _ (.tail _ (.head _)))) (ptr_all _ _ _ _)
  clear hK K
  (try simp only [Act.put, List.setIfInBounds_toArray, List.set_cons_zero, List.set_cons_succ])
  refine wpAnyH_take (i := 15) (oi := ⟨some 33, _, _, _, _, _⟩) (v := ?_) rfl (by kernel_rfl) (by kernel_rfl) (by kernel_rfl) (fun _ _ _ h => h) (Or.inl ⟨by rfl, ?_⟩) (by assumption) ?_
  rotate_left
  · intro w hSw; (try dsimp only at hSw); go_simp; try with_reducible rfl
  (try simp only [Act.put, List.setIfInBounds_toArray, List.set_cons_zero, List.set_cons_succ])
  refine wpAnyH_take (i := 16) (oi := ⟨some 34, _, _, _, _, _⟩) (v := ?_) rfl (by kernel_rfl) (by kernel_rfl) (by kernel_rfl) (fun _ _ _ h => h) (Or.inl ⟨by rfl, ?_⟩) (by assumption) ?_
  rotate_left
  · intro w hSw; (try dsimp only at hSw); go_simp; try with_reducible rfl
  (try simp only [Act.put, List.setIfInBounds_toArray, List.set_cons_zero, List.set_cons_succ])
  refine wpAnyH_take (i := 17) (oi := ⟨some 35, _, _, _, _, _⟩) (v := ?_) rfl (by kernel_rfl) (by kernel_rfl) (by kernel_rfl) (fun _ _ _ h => h) (Or.inl ⟨by rfl, ?_⟩) (by assumption) ?_
  rotate_left
  · intro w hSw; (try dsimp only at hSw); go_simp; try with_reducible rfl
  (try simp only [Act.put, List.setIfInBounds_toArray, List.set_cons_zero, List.set_cons_succ])
  refine wpAnyH_take (i := 18) (oi := ⟨some 36, _, _, _, _, _⟩) (v := ?_) rfl (by kernel_rfl) (by kernel_rfl) (by kernel_rfl) (fun _ _ _ h => h) (Or.inl ⟨by rfl, ?_⟩) (by assumption) ?_
  rotate_left
  · intro w hSw; (try dsimp only at hSw); go_simp; try with_reducible rfl
  (try simp only [Act.put, List.setIfInBounds_toArray, List.set_cons_zero, List.set_cons_succ])
  refine wpAnyH_take (i := 19) (oi := ⟨some 37, _, _, _, _, _⟩) (v := ?_) rfl (by kernel_rfl) (by kernel_rfl) (by kernel_rfl) (fun _ _ _ h => h) (Or.inl ⟨by rfl, ?_⟩) (by assumption) ?_
  rotate_left
  · intro w hSw; (try dsimp only at hSw); go_simp; try with_reducible rfl
  (try simp only [Act.put, List.setIfInBounds_toArray, List.set_cons_zero, List.set_cons_succ])
  refine wpAnyH_ready (rs := [20]) (by kernel_rfl) (by simp) ?_
  refine (AllReadyH.cons (o := ⟨some 38, _, _, _, _, _⟩) rfl (fun K hK => ?_) AllReadyH.nil)
  rw [if_pos (by rfl)]
  go_simp
  go_at_call 8
  refine (of16_any 2 _).mono ?_
  rintro _ _ ⟨g3, rfl, h4⟩
  have hm13 := St.behind (A := (mP gm ga xs (W3 p q r))) (St.call hm12 h4)
  clear h4 hm12
  refine hK.out _ _ ?_ (fun hHeld => ?_)
  · exact Loads.blkA (P := Try.prog) (T := 36) (vs := (ptrCells (.slice sa 2 sc) 1 0 S)) hm13 (by rw [ptr_len HL.out]; exact TyA.out) (List.mem_append_right _ (.tail _ (.tail _ (.tail _ (.head _))))) (ptr_all _ _ _ _)
  clear hK K
  (try simp only [Act.put, List.setIfInBounds_toArray, List.set_cons_zero, List.set_cons_succ])
  refine wpAnyH_ready (rs := [21]) (by kernel_rfl) (by simp) ?_
  refine (AllReadyH.cons (o := ⟨some 39, _, _, _, _, _⟩) rfl (fun K hK => ?_) AllReadyH.nil)
  rw [if_pos (by rfl)]
  go_simp
  go_at_call 24
  have HC := gets_any hm13 (w3_good p q r) sa 2 sc (onDevs 2) 1 0 S HL.out (fun _ h => Rd.row h (.tail _ (.tail _ (.tail _ (.tail _ (.head _)))))) (onDevs_len _) (some ⟨g3, 0, none⟩) 256 256 _ (gb_sect (.head _)) (by omega) (by decide) _ (w3_get p q r _ _ HS.out)
  refine HC.mono ?_
  clear HC
  rintro _ _ ⟨y14, rfl, h4⟩
  have hm15 : St _ _ _ ((mP gm ga y14 (W4 p q r)) ++ _) := h4
  clear h4 hm13
  refine hK.out _ _ ?_ (fun hHeld => ?_)
  · exact Loads.blkA (P := Try.prog) (T := 36) (vs := (ptrCells (.slice sa 2 sc) 1 0 S)) hm15 (by rw [ptr_len HL.out]; exact TyA.out) (List.mem_append_right _ (.tail _ (.tail _ (.tail _ (.head _))))) (ptr_all _ _ _ _)
  clear hK K
  (try simp only [Act.put, List.setIfInBounds_toArray, List.set_cons_zero, List.set_cons_succ])
  refine wpAnyH_take (i := 22) (oi := ⟨some 40, _, _, _, _, _⟩) (v := ?_) rfl (by kernel_rfl) (by kernel_rfl) (by kernel_rfl) (fun _ _ _ h => h) (Or.inl ⟨by rfl, ?_⟩) (by assumption) ?_
  rotate_left
  · intro w hSw; (try dsimp only at hSw); go_simp; try with_reducible rfl
  (try simp only [Act.put, List.setIfInBounds_toArray, List.set_cons_zero, List.set_cons_succ])
  refine wpAnyH_take (i := 23) (oi := ⟨some 41, _, _, _, _, _⟩) (v := ?_) rfl (by kernel_rfl) (by kernel_rfl) (by kernel_rfl) (fun _ _ _ h => h) (Or.inl ⟨by rfl, ?_⟩) (by assumption) ?_
  rotate_left
  · intro w hSw; (try dsimp only at hSw); go_simp; try with_reducible rfl
  (try simp only [Act.put, List.setIfInBounds_toArray, List.set_cons_zero, List.set_cons_succ])
  refine wpAnyH_done (by kernel_rfl) ?_ _
  clear hHeld
  go_wp2_with (first | go_big_skip | go_big_guard | (go_at_call 25; have HC := readM_any (mid_in (P := [_]) (Bs := []) hm15) (w4_good p q r).sc.ok (Nat.lt_of_le_of_lt (w4_good p q r).sc.ll (by decide)) 0 5; rw [w4_rE, w4_rB, w4_rd] at HC; refine HC.mono ?_; clear HC; rintro _ _ ⟨u, rfl, h4⟩; have hm16 := St.behind (A := (mP gm ga y14 (W4 p q r))) (mid_outp (Q := [_]) (P := [_]) (Bs := []) hm15 h4); clear h4 hm15) | (go_at_call 8; refine (of16_any 2 _).mono ?_; rintro _ _ ⟨g4, rfl, h4⟩; have hm17 := St.behind (A := (mP gm ga y14 (W4 p q r))) (St.call hm16 h4); clear h4 hm16) | (go_at_call 13; have HC := sameBytes_any _ _ _ _ (sect 2) (sect 2) _ (Rd.row hm17 (List.mem_append_right _ (.tail _ (.head _)))) (((gb_sect (.head _)) : GB w [] _ _ _ _).rd _ (St.sub hm17 (List.sublist_append_right _ _))); rw [beq_self_eq_true] at HC; refine HC.mono ?_; clear HC; rintro _ _ ⟨rfl, h4⟩; have hm18 := St.call0 hm17 h4; clear h4 hm17) | (go_at_call 18; have HC := errs_any hm18 (w4_good p q r) 0; rw [w4_e0] at HC; refine HC.mono ?_; clear HC; unfold ER.cells; rintro _ _ ⟨rfl, h4⟩; have hm19 := St.call0 hm18 h4; clear h4 hm18) | (refine wl_buildX (cs := [.int .i64 0, .int .i64 1, .int .i64 1]) [(1, .int .i64 1), (2, .int .i64 1)] rfl rfl (by exact rfl) (by kernel_rfl) ?_) | (refine wl_build0 rfl rfl ?_) | (go_at_call 18; have HC := errs_any hm19 (w4_good p q r) 1; rw [w4_e1] at HC; refine HC.mono ?_; clear HC; unfold ER.cells; rintro _ _ ⟨rfl, h4⟩; have hm20 := St.call0 hm19 h4; clear h4 hm19))
  go_ret
  exact ⟨rfl, hm20.nil⟩
end
end Go.Proofs.Ytmdfbdfijnmhkaa
