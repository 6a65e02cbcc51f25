/- Two tables the same. No program in sight. -/
import Derived.Test.YtkpkaoiafppimaaD8
import Derived.Test.YtkpkaoiafppimaaSepK
import Derived.Test.YtkpkaoiafppimaaJRecordReadsb
import Derived.Test.YtkpkaoiafppimaaJRecordReadsc
import Derived.Test.YtkpkaoiafppimaaNT5
import Derived.Test.YtkpkaoiafppimaaNum
import Derived.Test.YtkpkaoiafppimaaPtrM
import Derived.Test.YtkpkaoiafppimaaJRecordReadsd
import Derived.Test.YtkpkaoiafppimaaSepQ
import Derived.Test.YtkpkaoiafppimaaD0
namespace Go.Proofs.Ytkpkaoiafppimaa
set_option linter.unusedVariables false
set_option linter.unusedSimpArgs false
open Go.RowKit Hp
attribute [local irreducible] Go.Calls
set_option maxRecDepth 100000
set_option maxHeartbeats 4000000
attribute [local go_sem ↓] heldInt heldRecs heldStr
theorem any_step {p : RC → Bool} {xs : List (Value × RC)} {j : Nat} {y : Value × RC} (h : xs[j]? = some y) : ((xs.take (j + 1)).map (·.2)).any p = (((xs.take j).map (·.2)).any p || p y.2) := by
  rw [List.take_add_one, h, List.map_append, List.any_append]
  simp
theorem kin_any_r (t : TC) (lv : Value) (ar : Option Addr) (nr cr : Nat) (xs : List (Value × RC)) (w : World) (hR : RecsIn w (.slice ar nr cr) nr xs) (hb : nr ≤ 1000000) (x : Value × RC) (hin : RC.In w x) :
    Calls Try.prog 84 #[.agg (tabC t (.slice ar nr cr) lv).toArray, .agg (cellsR x).toArray] w fun e w' => e = .returned (.bool (kinB (xs.map (·.2)) x.2)) ∧ St w [] w' [] := by
  have hst0 := St.refl w
  have hcr : nr ≤ cr ∧ cr ≤ maxLen := by
    obtain ⟨_, ao', c0, he, hn, hcm, _⟩ := hR.rd
    cases he
    exact ⟨hn, hcm⟩
  have HR := hid hR
  have HIN := hid hin
  have HLL := hid hin.L
  clear hR hin
  obtain ⟨RR, hRR⟩ : ∃ RR, RR = kinB (xs.map (·.2)) x.2 := ⟨_, rfl⟩
  rw [← hRR]
  have HV := hid hRR
  clear hRR
  obtain ⟨hc1, hc2⟩ := hcr
  unfold maxLen at hc2
  cases d5 : (x.2.kind == 2)
  · have hv : RR = ((x.2.origin == 0) || (xs.map (·.2)).any fun y => (y.id == x.2.origin) && (y.kind == 2)) := by rw [HV.out]; unfold kinB; rw [d5]; rfl
    have HW := hid hv
    clear hv
    go_enter Try.func84, Try.ntmps84
    go_wp2_with (first | go_big_skip | go_big_guard | (refine wl_boxA hst0 rfl rfl rfl ?_; intro g1 w1 hst1; clear hst0) | (refine wl_boxA hst1 rfl rfl rfl ?_; intro gx w2 hst; clear hst1) | (refine wl_loadE rfl rfl rfl ?_; first | refine ⟨_, Loads.atA (tabC t (.slice ar nr cr) lv) [_] hst rfl rfl, ?_⟩ | refine ⟨_, Loads.at [] hst rfl, ?_⟩ | refine ⟨_, Loads.at [] hst (cellsR_41 HLL.out), ?_⟩ | refine ⟨_, Loads.at [_] hst rfl, ?_⟩) | (go_at_call 101; refine (refSplit_any x.2.name _ HIN.out.2).mono ?_; rintro _ w9 ⟨rfl, h4⟩; replace hst := St.call0 hst h4; clear h4) | (go_at_call 25; refine (refFind_any t lv (splitL x.2.name).1 _ nr cr xs _ (HR.out.old hst.nil) hb).mono ?_; rw [HF.out]; rintro _ w9 ⟨rfl, h4⟩; replace hst := St.call0 hst h4; clear h4))
    go_loopw [10, 11] (fun q i wr => ∃ j : Nat, j ≤ nr ∧ i = .int .i64 (j : Int) ∧ q = .bool ((x.2.origin == 0) || ((xs.take j).map (·.2)).any fun y => (y.id == x.2.origin) && (y.kind == 2)) ∧ St w [] wr [.blk gx 47 (cellsR x), .blk g1 30 (tabC t (.slice ar nr cr) lv)]) (fun _ i _ => nr - (intOf i).toNat)
    case atStart => exact ⟨0, Nat.zero_le _, rfl, by simp, hst⟩
    case round =>
      clear hst
      obtain ⟨j, hj, rfl, rfl, hst⟩ := hrel
      by_cases hlt : j < nr
      · have e1 : decide ((j : Int) < (nr : Int)) = true := decide_eq_true (by omega)
        have z1 : IntKind.i64.wrap ((j : Int) + 1) = (j : Int) + 1 := IntWalk.i64_in _ (by omega)
        obtain ⟨y, lb, lo, hyj, rfl, hiny, hr⟩ := RecsIn.at HR.out hlt
        have HYJ := hid hyj
        have HYI := hid (show w.cell? ⟨lb, lo + j * 44, none⟩ = some (.int .i64 y.2.id) from hr 0 _ rfl)
        have HYK := hid (show w.cell? ⟨lb, lo + j * 44 + 2, none⟩ = some (.int .i64 y.2.kind) from hr 2 _ rfl)
        clear hyj hiny hr
        obtain ⟨a, ha⟩ : ∃ a, a = ((x.2.origin == 0) || ((xs.take j).map (·.2)).any fun y => (y.id == x.2.origin) && (y.kind == 2)) := ⟨_, rfl⟩
        rw [← ha]
        have HAC := hid ha
        clear ha
        cases a
        · cases c1 : (y.2.id == x.2.origin)
          · go_wp2_with (first | go_big_skip | go_big_guard | (refine wl_loadE rfl rfl rfl ?_; first | refine ⟨_, Loads.atA (tabC t (.slice ar nr cr) lv) [_] hst rfl rfl, ?_⟩ | refine ⟨_, Loads.at [] hst rfl, ?_⟩ | refine ⟨_, Loads.at [] hst (cellsR_41 HLL.out), ?_⟩ | refine ⟨_, Loads.at [_] hst rfl, ?_⟩))
            have hX := hst.drew
            clear hst
            refine wp_region_held_drew (S := (fun w' => (loadVarH 25 ⟨g1, 1, none⟩).run Try.prog w' = .ok (.slice (some ⟨lb, lo, none⟩) nr cr) w' ∧ (loadVarH 3 ⟨gx, 41, none⟩).run Try.prog w' = .ok (.int .i64 x.2.origin) w' ∧ (loadVarH 3 ⟨lb, lo + j * 44, none⟩).run Try.prog w' = .ok (.int .i64 y.2.id) w' ∧ (loadVarH 3 ⟨lb, lo + j * 44 + 2, none⟩).run Try.prog w' = .ok (.int .i64 y.2.kind) w')) (by kernel_rfl) (by exact ⟨ldS [_] hX rfl, ldS [] hX (cellsR_41 HLL.out), ldO hX (HYI.out), ldO hX (HYK.out)⟩) (fun hHeld => ?_)
            refine tk 0 50 ?_
            (try simp only [Act.put, List.setIfInBounds_toArray, List.set_cons_zero, List.set_cons_succ])
            refine tk 1 51 ?_
            (try simp only [Act.put, List.setIfInBounds_toArray, List.set_cons_zero, List.set_cons_succ])
            refine tk 2 52 ?_
            (try simp only [Act.put, List.setIfInBounds_toArray, List.set_cons_zero, List.set_cons_succ])
            refine tk 4 54 ?_
            (try simp only [Act.put, List.setIfInBounds_toArray, List.set_cons_zero, List.set_cons_succ])
            refine tk 8 58 ?_
            (try simp only [Act.put, List.setIfInBounds_toArray, List.set_cons_zero, List.set_cons_succ])
            refine tk 3 53 ?_
            (try simp only [Act.put, List.setIfInBounds_toArray, List.set_cons_zero, List.set_cons_succ])
            refine tk 9 59 ?_
            (try simp only [Act.put, List.setIfInBounds_toArray, List.set_cons_zero, List.set_cons_succ])
            refine tk 5 55 ?_
            (try simp only [Act.put, List.setIfInBounds_toArray, List.set_cons_zero, List.set_cons_succ])
            refine tk 6 56 ?_
            (try simp only [Act.put, List.setIfInBounds_toArray, List.set_cons_zero, List.set_cons_succ])
            refine tk 7 57 ?_
            (try simp only [Act.put, List.setIfInBounds_toArray, List.set_cons_zero, List.set_cons_succ])
            refine tk 10 60 ?_
            (try simp only [Act.put, List.setIfInBounds_toArray, List.set_cons_zero, List.set_cons_succ])
            refine tk 11 61 ?_
            (try simp only [Act.put, List.setIfInBounds_toArray, List.set_cons_zero, List.set_cons_succ])
            refine wpAnyH_take (i := 12) (oi := ⟨some 62, _, _, _, _, _⟩) (v := undef) rfl (by kernel_rfl) (by kernel_rfl) (by kernel_rfl) (fun _ _ _ h => h) (Or.inr ⟨by rfl, rfl⟩) (by assumption) ?_
            (try simp only [Act.put, List.setIfInBounds_toArray, List.set_cons_zero, List.set_cons_succ])
            refine wpAnyH_take (i := 14) (oi := ⟨some 64, _, _, _, _, _⟩) (v := undef) rfl (by kernel_rfl) (by kernel_rfl) (by kernel_rfl) (fun _ _ _ h => h) (Or.inr ⟨by rfl, rfl⟩) (by assumption) ?_
            (try simp only [Act.put, List.setIfInBounds_toArray, List.set_cons_zero, List.set_cons_succ])
            refine wpAnyH_take (i := 13) (oi := ⟨some 63, _, _, _, _, _⟩) (v := undef) rfl (by kernel_rfl) (by kernel_rfl) (by kernel_rfl) (fun _ _ _ h => h) (Or.inr ⟨by rfl, rfl⟩) (by assumption) ?_
            (try simp only [Act.put, List.setIfInBounds_toArray, List.set_cons_zero, List.set_cons_succ])
            refine wpAnyH_take (i := 15) (oi := ⟨some 65, _, _, _, _, _⟩) (v := undef) rfl (by kernel_rfl) (by kernel_rfl) (by kernel_rfl) (fun _ _ _ h => h) (Or.inr ⟨by rfl, rfl⟩) (by assumption) ?_
            (try simp only [Act.put, List.setIfInBounds_toArray, List.set_cons_zero, List.set_cons_succ])
            refine wpAnyH_take (i := 16) (oi := ⟨some 66, _, _, _, _, _⟩) (v := undef) rfl (by kernel_rfl) (by kernel_rfl) (by kernel_rfl) (fun _ _ _ h => h) (Or.inr ⟨by rfl, rfl⟩) (by assumption) ?_
            (try simp only [Act.put, List.setIfInBounds_toArray, List.set_cons_zero, List.set_cons_succ])
            refine wpAnyH_take (i := 17) (oi := ⟨some 67, _, _, _, _, _⟩) (v := undef) rfl (by kernel_rfl) (by kernel_rfl) (by kernel_rfl) (fun _ _ _ h => h) (Or.inr ⟨by rfl, rfl⟩) (by assumption) ?_
            (try simp only [Act.put, List.setIfInBounds_toArray, List.set_cons_zero, List.set_cons_succ])
            refine wpAnyH_take (i := 18) (oi := ⟨some 68, _, _, _, _, _⟩) (v := undef) rfl (by kernel_rfl) (by kernel_rfl) (by kernel_rfl) (fun _ _ _ h => h) (Or.inr ⟨by rfl, rfl⟩) (by assumption) ?_
            (try simp only [Act.put, List.setIfInBounds_toArray, List.set_cons_zero, List.set_cons_succ])
            refine tk 19 69 ?_
            (try simp only [Act.put, List.setIfInBounds_toArray, List.set_cons_zero, List.set_cons_succ])
            refine tk 20 70 ?_
            (try simp only [Act.put, List.setIfInBounds_toArray, List.set_cons_zero, List.set_cons_succ])
            refine tk 21 10 ?_
            (try simp only [Act.put, List.setIfInBounds_toArray, List.set_cons_zero, List.set_cons_succ])
            refine wpAnyH_done (by kernel_rfl) ?_ _
            clear hHeld
            go_wp2_with (first | go_big_skip | go_big_guard | fail)
            go_roundw
            case rel => exact ⟨j + 1, by omega, rfl, by rw [any_step HYJ.out, ← Bool.or_assoc, ← HAC.out]; simp [c1], hX⟩
            case measure => simp [intOf]; omega
          · go_wp2_with (first | go_big_skip | go_big_guard | (refine wl_loadE rfl rfl rfl ?_; first | refine ⟨_, Loads.atA (tabC t (.slice ar nr cr) lv) [_] hst rfl rfl, ?_⟩ | refine ⟨_, Loads.at [] hst rfl, ?_⟩ | refine ⟨_, Loads.at [] hst (cellsR_41 HLL.out), ?_⟩ | refine ⟨_, Loads.at [_] hst rfl, ?_⟩))
            have hX := hst.drew
            clear hst
            refine wp_region_held_drew (S := (fun w' => (loadVarH 25 ⟨g1, 1, none⟩).run Try.prog w' = .ok (.slice (some ⟨lb, lo, none⟩) nr cr) w' ∧ (loadVarH 3 ⟨gx, 41, none⟩).run Try.prog w' = .ok (.int .i64 x.2.origin) w' ∧ (loadVarH 3 ⟨lb, lo + j * 44, none⟩).run Try.prog w' = .ok (.int .i64 y.2.id) w' ∧ (loadVarH 3 ⟨lb, lo + j * 44 + 2, none⟩).run Try.prog w' = .ok (.int .i64 y.2.kind) w')) (by kernel_rfl) (by exact ⟨ldS [_] hX rfl, ldS [] hX (cellsR_41 HLL.out), ldO hX (HYI.out), ldO hX (HYK.out)⟩) (fun hHeld => ?_)
            refine tk 0 50 ?_
            (try simp only [Act.put, List.setIfInBounds_toArray, List.set_cons_zero, List.set_cons_succ])
            refine tk 1 51 ?_
            (try simp only [Act.put, List.setIfInBounds_toArray, List.set_cons_zero, List.set_cons_succ])
            refine tk 2 52 ?_
            (try simp only [Act.put, List.setIfInBounds_toArray, List.set_cons_zero, List.set_cons_succ])
            refine tk 4 54 ?_
            (try simp only [Act.put, List.setIfInBounds_toArray, List.set_cons_zero, List.set_cons_succ])
            refine tk 8 58 ?_
            (try simp only [Act.put, List.setIfInBounds_toArray, List.set_cons_zero, List.set_cons_succ])
            refine tk 3 53 ?_
            (try simp only [Act.put, List.setIfInBounds_toArray, List.set_cons_zero, List.set_cons_succ])
            refine tk 9 59 ?_
            (try simp only [Act.put, List.setIfInBounds_toArray, List.set_cons_zero, List.set_cons_succ])
            refine tk 5 55 ?_
            (try simp only [Act.put, List.setIfInBounds_toArray, List.set_cons_zero, List.set_cons_succ])
            refine tk 6 56 ?_
            (try simp only [Act.put, List.setIfInBounds_toArray, List.set_cons_zero, List.set_cons_succ])
            refine tk 7 57 ?_
            (try simp only [Act.put, List.setIfInBounds_toArray, List.set_cons_zero, List.set_cons_succ])
            refine tk 10 60 ?_
            (try simp only [Act.put, List.setIfInBounds_toArray, List.set_cons_zero, List.set_cons_succ])
            refine tk 11 61 ?_
            (try simp only [Act.put, List.setIfInBounds_toArray, List.set_cons_zero, List.set_cons_succ])
            refine tk 12 62 ?_
            (try simp only [Act.put, List.setIfInBounds_toArray, List.set_cons_zero, List.set_cons_succ])
            refine tk 14 64 ?_
            (try simp only [Act.put, List.setIfInBounds_toArray, List.set_cons_zero, List.set_cons_succ])
            refine tk 13 63 ?_
            (try simp only [Act.put, List.setIfInBounds_toArray, List.set_cons_zero, List.set_cons_succ])
            refine tk 15 65 ?_
            (try simp only [Act.put, List.setIfInBounds_toArray, List.set_cons_zero, List.set_cons_succ])
            refine tk 16 66 ?_
            (try simp only [Act.put, List.setIfInBounds_toArray, List.set_cons_zero, List.set_cons_succ])
            refine tk 17 67 ?_
            (try simp only [Act.put, List.setIfInBounds_toArray, List.set_cons_zero, List.set_cons_succ])
            refine tk 18 68 ?_
            (try simp only [Act.put, List.setIfInBounds_toArray, List.set_cons_zero, List.set_cons_succ])
            refine tk 19 69 ?_
            (try simp only [Act.put, List.setIfInBounds_toArray, List.set_cons_zero, List.set_cons_succ])
            refine tk 20 70 ?_
            (try simp only [Act.put, List.setIfInBounds_toArray, List.set_cons_zero, List.set_cons_succ])
            refine tk 21 10 ?_
            (try simp only [Act.put, List.setIfInBounds_toArray, List.set_cons_zero, List.set_cons_succ])
            refine wpAnyH_done (by kernel_rfl) ?_ _
            clear hHeld
            go_wp2_with (first | go_big_skip | go_big_guard | fail)
            go_roundw
            case rel => exact ⟨j + 1, by omega, rfl, by rw [any_step HYJ.out, ← Bool.or_assoc, ← HAC.out]; simp [c1], hX⟩
            case measure => simp [intOf]; omega
        · go_wp2_with (first | go_big_skip | go_big_guard | (refine wl_loadE rfl rfl rfl ?_; first | refine ⟨_, Loads.atA (tabC t (.slice ar nr cr) lv) [_] hst rfl rfl, ?_⟩ | refine ⟨_, Loads.at [] hst rfl, ?_⟩ | refine ⟨_, Loads.at [] hst (cellsR_41 HLL.out), ?_⟩ | refine ⟨_, Loads.at [_] hst rfl, ?_⟩))
          have hX := hst.drew
          clear hst
          refine wp_region_held_drew (S := (fun w' => (loadVarH 25 ⟨g1, 1, none⟩).run Try.prog w' = .ok (.slice (some ⟨lb, lo, none⟩) nr cr) w' ∧ (loadVarH 3 ⟨gx, 41, none⟩).run Try.prog w' = .ok (.int .i64 x.2.origin) w' ∧ (loadVarH 3 ⟨lb, lo + j * 44, none⟩).run Try.prog w' = .ok (.int .i64 y.2.id) w' ∧ (loadVarH 3 ⟨lb, lo + j * 44 + 2, none⟩).run Try.prog w' = .ok (.int .i64 y.2.kind) w')) (by kernel_rfl) (by exact ⟨ldS [_] hX rfl, ldS [] hX (cellsR_41 HLL.out), ldO hX (HYI.out), ldO hX (HYK.out)⟩) (fun hHeld => ?_)
          refine tk 0 50 ?_
          (try simp only [Act.put, List.setIfInBounds_toArray, List.set_cons_zero, List.set_cons_succ])
          refine tk 1 51 ?_
          (try simp only [Act.put, List.setIfInBounds_toArray, List.set_cons_zero, List.set_cons_succ])
          refine wpAnyH_take (i := 2) (oi := ⟨some 52, _, _, _, _, _⟩) (v := undef) rfl (by kernel_rfl) (by kernel_rfl) (by kernel_rfl) (fun _ _ _ h => h) (Or.inr ⟨by rfl, rfl⟩) (by assumption) ?_
          (try simp only [Act.put, List.setIfInBounds_toArray, List.set_cons_zero, List.set_cons_succ])
          refine wpAnyH_take (i := 4) (oi := ⟨some 54, _, _, _, _, _⟩) (v := undef) rfl (by kernel_rfl) (by kernel_rfl) (by kernel_rfl) (fun _ _ _ h => h) (Or.inr ⟨by rfl, rfl⟩) (by assumption) ?_
          (try simp only [Act.put, List.setIfInBounds_toArray, List.set_cons_zero, List.set_cons_succ])
          refine wpAnyH_take (i := 8) (oi := ⟨some 58, _, _, _, _, _⟩) (v := undef) rfl (by kernel_rfl) (by kernel_rfl) (by kernel_rfl) (fun _ _ _ h => h) (Or.inr ⟨by rfl, rfl⟩) (by assumption) ?_
          (try simp only [Act.put, List.setIfInBounds_toArray, List.set_cons_zero, List.set_cons_succ])
          refine wpAnyH_take (i := 3) (oi := ⟨some 53, _, _, _, _, _⟩) (v := undef) rfl (by kernel_rfl) (by kernel_rfl) (by kernel_rfl) (fun _ _ _ h => h) (Or.inr ⟨by rfl, rfl⟩) (by assumption) ?_
          (try simp only [Act.put, List.setIfInBounds_toArray, List.set_cons_zero, List.set_cons_succ])
          refine wpAnyH_take (i := 9) (oi := ⟨some 59, _, _, _, _, _⟩) (v := undef) rfl (by kernel_rfl) (by kernel_rfl) (by kernel_rfl) (fun _ _ _ h => h) (Or.inr ⟨by rfl, rfl⟩) (by assumption) ?_
          (try simp only [Act.put, List.setIfInBounds_toArray, List.set_cons_zero, List.set_cons_succ])
          refine wpAnyH_take (i := 5) (oi := ⟨some 55, _, _, _, _, _⟩) (v := undef) rfl (by kernel_rfl) (by kernel_rfl) (by kernel_rfl) (fun _ _ _ h => h) (Or.inr ⟨by rfl, rfl⟩) (by assumption) ?_
          (try simp only [Act.put, List.setIfInBounds_toArray, List.set_cons_zero, List.set_cons_succ])
          refine wpAnyH_take (i := 6) (oi := ⟨some 56, _, _, _, _, _⟩) (v := undef) rfl (by kernel_rfl) (by kernel_rfl) (by kernel_rfl) (fun _ _ _ h => h) (Or.inr ⟨by rfl, rfl⟩) (by assumption) ?_
          (try simp only [Act.put, List.setIfInBounds_toArray, List.set_cons_zero, List.set_cons_succ])
          refine wpAnyH_take (i := 7) (oi := ⟨some 57, _, _, _, _, _⟩) (v := undef) rfl (by kernel_rfl) (by kernel_rfl) (by kernel_rfl) (fun _ _ _ h => h) (Or.inr ⟨by rfl, rfl⟩) (by assumption) ?_
          (try simp only [Act.put, List.setIfInBounds_toArray, List.set_cons_zero, List.set_cons_succ])
          refine wpAnyH_take (i := 10) (oi := ⟨some 60, _, _, _, _, _⟩) (v := undef) rfl (by kernel_rfl) (by kernel_rfl) (by kernel_rfl) (fun _ _ _ h => h) (Or.inr ⟨by rfl, rfl⟩) (by assumption) ?_
          (try simp only [Act.put, List.setIfInBounds_toArray, List.set_cons_zero, List.set_cons_succ])
          refine wpAnyH_take (i := 11) (oi := ⟨some 61, _, _, _, _, _⟩) (v := undef) rfl (by kernel_rfl) (by kernel_rfl) (by kernel_rfl) (fun _ _ _ h => h) (Or.inr ⟨by rfl, rfl⟩) (by assumption) ?_
          (try simp only [Act.put, List.setIfInBounds_toArray, List.set_cons_zero, List.set_cons_succ])
          refine wpAnyH_take (i := 12) (oi := ⟨some 62, _, _, _, _, _⟩) (v := undef) rfl (by kernel_rfl) (by kernel_rfl) (by kernel_rfl) (fun _ _ _ h => h) (Or.inr ⟨by rfl, rfl⟩) (by assumption) ?_
          (try simp only [Act.put, List.setIfInBounds_toArray, List.set_cons_zero, List.set_cons_succ])
          refine wpAnyH_take (i := 14) (oi := ⟨some 64, _, _, _, _, _⟩) (v := undef) rfl (by kernel_rfl) (by kernel_rfl) (by kernel_rfl) (fun _ _ _ h => h) (Or.inr ⟨by rfl, rfl⟩) (by assumption) ?_
          (try simp only [Act.put, List.setIfInBounds_toArray, List.set_cons_zero, List.set_cons_succ])
          refine wpAnyH_take (i := 13) (oi := ⟨some 63, _, _, _, _, _⟩) (v := undef) rfl (by kernel_rfl) (by kernel_rfl) (by kernel_rfl) (fun _ _ _ h => h) (Or.inr ⟨by rfl, rfl⟩) (by assumption) ?_
          (try simp only [Act.put, List.setIfInBounds_toArray, List.set_cons_zero, List.set_cons_succ])
          refine wpAnyH_take (i := 15) (oi := ⟨some 65, _, _, _, _, _⟩) (v := undef) rfl (by kernel_rfl) (by kernel_rfl) (by kernel_rfl) (fun _ _ _ h => h) (Or.inr ⟨by rfl, rfl⟩) (by assumption) ?_
          (try simp only [Act.put, List.setIfInBounds_toArray, List.set_cons_zero, List.set_cons_succ])
          refine wpAnyH_take (i := 16) (oi := ⟨some 66, _, _, _, _, _⟩) (v := undef) rfl (by kernel_rfl) (by kernel_rfl) (by kernel_rfl) (fun _ _ _ h => h) (Or.inr ⟨by rfl, rfl⟩) (by assumption) ?_
          (try simp only [Act.put, List.setIfInBounds_toArray, List.set_cons_zero, List.set_cons_succ])
          refine wpAnyH_take (i := 17) (oi := ⟨some 67, _, _, _, _, _⟩) (v := undef) rfl (by kernel_rfl) (by kernel_rfl) (by kernel_rfl) (fun _ _ _ h => h) (Or.inr ⟨by rfl, rfl⟩) (by assumption) ?_
          (try simp only [Act.put, List.setIfInBounds_toArray, List.set_cons_zero, List.set_cons_succ])
          refine wpAnyH_take (i := 18) (oi := ⟨some 68, _, _, _, _, _⟩) (v := undef) rfl (by kernel_rfl) (by kernel_rfl) (by kernel_rfl) (fun _ _ _ h => h) (Or.inr ⟨by rfl, rfl⟩) (by assumption) ?_
          (try simp only [Act.put, List.setIfInBounds_toArray, List.set_cons_zero, List.set_cons_succ])
          refine wpAnyH_take (i := 19) (oi := ⟨some 69, _, _, _, _, _⟩) (v := undef) rfl (by kernel_rfl) (by kernel_rfl) (by kernel_rfl) (fun _ _ _ h => h) (Or.inr ⟨by rfl, rfl⟩) (by assumption) ?_
          (try simp only [Act.put, List.setIfInBounds_toArray, List.set_cons_zero, List.set_cons_succ])
          refine tk 20 70 ?_
          (try simp only [Act.put, List.setIfInBounds_toArray, List.set_cons_zero, List.set_cons_succ])
          refine tk 21 10 ?_
          (try simp only [Act.put, List.setIfInBounds_toArray, List.set_cons_zero, List.set_cons_succ])
          refine wpAnyH_done (by kernel_rfl) ?_ _
          clear hHeld
          go_wp2_with (first | go_big_skip | go_big_guard | fail)
          go_roundw
          case rel => exact ⟨j + 1, by omega, rfl, by rw [any_step HYJ.out, ← Bool.or_assoc, ← HAC.out]; rfl, hX⟩
          case measure => simp [intOf]; omega
      · have e1 : decide ((j : Int) < (nr : Int)) = false := decide_eq_false (by omega)
        have hv : RR = ((x.2.origin == 0) || ((xs.take j).map (·.2)).any fun y => (y.id == x.2.origin) && (y.kind == 2)) := by rw [HW.out, List.take_of_length_le (by have := HR.out.len; omega)]
        rw [← hv]
        clear hv
        go_wp2_with (first | go_big_skip | go_big_guard | (refine wl_loadE rfl rfl rfl ?_; first | refine ⟨_, Loads.atA (tabC t (.slice ar nr cr) lv) [_] hst rfl rfl, ?_⟩ | refine ⟨_, Loads.at [] hst rfl, ?_⟩ | refine ⟨_, Loads.at [] hst (cellsR_41 HLL.out), ?_⟩ | refine ⟨_, Loads.at [_] hst rfl, ?_⟩))
        go_ret
        exact ⟨rfl, hst.nil⟩
  · have hv : RR = volB (xs.map (·.2)) x.2 := by rw [HV.out]; unfold kinB; rw [d5]; rfl
    obtain ⟨⟨z, is⟩, hf⟩ : ∃ p, findP (splitL x.2.name).1 (xs.map (·.2)) = p := ⟨_, rfl⟩
    have HF := hid hf
    cases is
    · have hv2 := hv.trans (volB_no hf)
      rw [hv2]
      clear hv hv2 hf
      go_enter Try.func84, Try.ntmps84
      go_wp2_with (first | go_big_skip | go_big_guard | (refine wl_boxA hst0 rfl rfl rfl ?_; intro g1 w1 hst1; clear hst0) | (refine wl_boxA hst1 rfl rfl rfl ?_; intro gx w2 hst; clear hst1) | (refine wl_loadE rfl rfl rfl ?_; first | refine ⟨_, Loads.atA (tabC t (.slice ar nr cr) lv) [_] hst rfl rfl, ?_⟩ | refine ⟨_, Loads.at [] hst rfl, ?_⟩ | refine ⟨_, Loads.at [] hst (cellsR_41 HLL.out), ?_⟩ | refine ⟨_, Loads.at [_] hst rfl, ?_⟩) | (go_at_call 101; refine (refSplit_any x.2.name _ HIN.out.2).mono ?_; rintro _ w9 ⟨rfl, h4⟩; replace hst := St.call0 hst h4; clear h4) | (go_at_call 25; refine (refFind_any t lv (splitL x.2.name).1 _ nr cr xs _ (HR.out.old hst.nil) hb).mono ?_; rw [HF.out]; rintro _ w9 ⟨rfl, h4⟩; replace hst := St.call0 hst h4; clear h4))
      have hD := hst.drew
      clear hst
      refine wp_region_held_drew (S := (fun w' => (loadVarH 25 ⟨g1, 1, none⟩).run Try.prog w' = .ok (.slice ar nr cr) w' ∧ (loadVarH 3 ⟨gx, 40, none⟩).run Try.prog w' = .ok (.int .i64 x.2.own) w')) (by kernel_rfl) (by exact ⟨ldS [_] hD rfl, ldS [] hD (cellsR_40 HLL.out)⟩) (fun hHeld => ?_)
      refine tk 0 28 ?_
      (try simp only [Act.put, List.setIfInBounds_toArray, List.set_cons_zero, List.set_cons_succ])
      refine tk 1 29 ?_
      (try simp only [Act.put, List.setIfInBounds_toArray, List.set_cons_zero, List.set_cons_succ])
      refine wpAnyH_take (i := 2) (oi := ⟨some 30, _, _, _, _, _⟩) (v := undef) rfl (by kernel_rfl) (by kernel_rfl) (by kernel_rfl) (fun _ _ _ h => h) (Or.inr ⟨by rfl, rfl⟩) (by assumption) ?_
      (try simp only [Act.put, List.setIfInBounds_toArray, List.set_cons_zero, List.set_cons_succ])
      refine wpAnyH_take (i := 4) (oi := ⟨some 32, _, _, _, _, _⟩) (v := undef) rfl (by kernel_rfl) (by kernel_rfl) (by kernel_rfl) (fun _ _ _ h => h) (Or.inr ⟨by rfl, rfl⟩) (by assumption) ?_
      (try simp only [Act.put, List.setIfInBounds_toArray, List.set_cons_zero, List.set_cons_succ])
      refine wpAnyH_take (i := 8) (oi := ⟨some 36, _, _, _, _, _⟩) (v := undef) rfl (by kernel_rfl) (by kernel_rfl) (by kernel_rfl) (fun _ _ _ h => h) (Or.inr ⟨by rfl, rfl⟩) (by assumption) ?_
      (try simp only [Act.put, List.setIfInBounds_toArray, List.set_cons_zero, List.set_cons_succ])
      refine wpAnyH_take (i := 3) (oi := ⟨some 31, _, _, _, _, _⟩) (v := undef) rfl (by kernel_rfl) (by kernel_rfl) (by kernel_rfl) (fun _ _ _ h => h) (Or.inr ⟨by rfl, rfl⟩) (by assumption) ?_
      (try simp only [Act.put, List.setIfInBounds_toArray, List.set_cons_zero, List.set_cons_succ])
      refine wpAnyH_take (i := 9) (oi := ⟨some 37, _, _, _, _, _⟩) (v := undef) rfl (by kernel_rfl) (by kernel_rfl) (by kernel_rfl) (fun _ _ _ h => h) (Or.inr ⟨by rfl, rfl⟩) (by assumption) ?_
      (try simp only [Act.put, List.setIfInBounds_toArray, List.set_cons_zero, List.set_cons_succ])
      refine wpAnyH_take (i := 5) (oi := ⟨some 33, _, _, _, _, _⟩) (v := undef) rfl (by kernel_rfl) (by kernel_rfl) (by kernel_rfl) (fun _ _ _ h => h) (Or.inr ⟨by rfl, rfl⟩) (by assumption) ?_
      (try simp only [Act.put, List.setIfInBounds_toArray, List.set_cons_zero, List.set_cons_succ])
      refine wpAnyH_take (i := 6) (oi := ⟨some 34, _, _, _, _, _⟩) (v := undef) rfl (by kernel_rfl) (by kernel_rfl) (by kernel_rfl) (fun _ _ _ h => h) (Or.inr ⟨by rfl, rfl⟩) (by assumption) ?_
      (try simp only [Act.put, List.setIfInBounds_toArray, List.set_cons_zero, List.set_cons_succ])
      refine wpAnyH_take (i := 7) (oi := ⟨some 35, _, _, _, _, _⟩) (v := undef) rfl (by kernel_rfl) (by kernel_rfl) (by kernel_rfl) (fun _ _ _ h => h) (Or.inr ⟨by rfl, rfl⟩) (by assumption) ?_
      (try simp only [Act.put, List.setIfInBounds_toArray, List.set_cons_zero, List.set_cons_succ])
      refine wpAnyH_take (i := 10) (oi := ⟨some 38, _, _, _, _, _⟩) (v := undef) rfl (by kernel_rfl) (by kernel_rfl) (by kernel_rfl) (fun _ _ _ h => h) (Or.inr ⟨by rfl, rfl⟩) (by assumption) ?_
      (try simp only [Act.put, List.setIfInBounds_toArray, List.set_cons_zero, List.set_cons_succ])
      refine tk 11 39 ?_
      (try simp only [Act.put, List.setIfInBounds_toArray, List.set_cons_zero, List.set_cons_succ])
      refine tk 12 4 ?_
      (try simp only [Act.put, List.setIfInBounds_toArray, List.set_cons_zero, List.set_cons_succ])
      refine wpAnyH_done (by kernel_rfl) ?_ _
      clear hHeld
      go_wp2_with (first | go_big_skip | go_big_guard | fail)
      go_ret
      exact ⟨rfl, hD.nil⟩
    · obtain ⟨j, y, rfl, hy, hfn⟩ := findP_yes hf
      have hv2 := hv.trans (volB_yes hfn hy)
      rw [hv2]
      have hjlt : j < nr := by rw [← HR.out.len]; exact (List.getElem?_eq_some_iff.1 hy).1
      obtain ⟨y', lb, lo, hy', rfl, hiny, hry⟩ := RecsIn.at HR.out hjlt
      obtain rfl : y = y' := Option.some.inj (hy.symm.trans hy')
      have HY := hid (show w.cell? ⟨lb, lo + j * 44, none⟩ = some (.int .i64 y.2.id) from hry 0 _ rfl)
      clear hv hv2 hf hy hfn hy' hiny hry
      go_enter Try.func84, Try.ntmps84
      go_wp2_with (first | go_big_skip | go_big_guard | (refine wl_boxA hst0 rfl rfl rfl ?_; intro g1 w1 hst1; clear hst0) | (refine wl_boxA hst1 rfl rfl rfl ?_; intro gx w2 hst; clear hst1) | (refine wl_loadE rfl rfl rfl ?_; first | refine ⟨_, Loads.atA (tabC t (.slice (some ⟨lb, lo, none⟩) nr cr) lv) [_] hst rfl rfl, ?_⟩ | refine ⟨_, Loads.at [] hst rfl, ?_⟩ | refine ⟨_, Loads.at [] hst (cellsR_41 HLL.out), ?_⟩ | refine ⟨_, Loads.at [_] hst rfl, ?_⟩) | (go_at_call 101; refine (refSplit_any x.2.name _ HIN.out.2).mono ?_; rintro _ w9 ⟨rfl, h4⟩; replace hst := St.call0 hst h4; clear h4) | (go_at_call 25; refine (refFind_any t lv (splitL x.2.name).1 _ nr cr xs _ (HR.out.old hst.nil) hb).mono ?_; rw [HF.out]; rintro _ w9 ⟨rfl, h4⟩; replace hst := St.call0 hst h4; clear h4))
      have hD := hst.drew
      clear hst
      refine wp_region_held_drew (S := (fun w' => (loadVarH 25 ⟨g1, 1, none⟩).run Try.prog w' = .ok (.slice (some ⟨lb, lo, none⟩) nr cr) w' ∧ (loadVarH 3 ⟨gx, 40, none⟩).run Try.prog w' = .ok (.int .i64 x.2.own) w' ∧ (loadVarH 3 ⟨lb, lo + j * 44, none⟩).run Try.prog w' = .ok (.int .i64 y.2.id) w')) (by kernel_rfl) (by exact ⟨ldS [_] hD rfl, ldS [] hD (cellsR_40 HLL.out), ldO hD (HY.out)⟩) (fun hHeld => ?_)
      refine tk 0 28 ?_
      (try simp only [Act.put, List.setIfInBounds_toArray, List.set_cons_zero, List.set_cons_succ])
      refine tk 1 29 ?_
      (try simp only [Act.put, List.setIfInBounds_toArray, List.set_cons_zero, List.set_cons_succ])
      refine tk 2 30 ?_
      (try simp only [Act.put, List.setIfInBounds_toArray, List.set_cons_zero, List.set_cons_succ])
      refine tk 4 32 ?_
      (try simp only [Act.put, List.setIfInBounds_toArray, List.set_cons_zero, List.set_cons_succ])
      refine tk 8 36 ?_
      (try simp only [Act.put, List.setIfInBounds_toArray, List.set_cons_zero, List.set_cons_succ])
      refine tk 3 31 ?_
      (try simp only [Act.put, List.setIfInBounds_toArray, List.set_cons_zero, List.set_cons_succ])
      refine tk 9 37 ?_
      (try simp only [Act.put, List.setIfInBounds_toArray, List.set_cons_zero, List.set_cons_succ])
      refine tk 5 33 ?_
      (try simp only [Act.put, List.setIfInBounds_toArray, List.set_cons_zero, List.set_cons_succ])
      refine tk 6 34 ?_
      (try simp only [Act.put, List.setIfInBounds_toArray, List.set_cons_zero, List.set_cons_succ])
      refine tk 7 35 ?_
      (try simp only [Act.put, List.setIfInBounds_toArray, List.set_cons_zero, List.set_cons_succ])
      refine tk 10 38 ?_
      (try simp only [Act.put, List.setIfInBounds_toArray, List.set_cons_zero, List.set_cons_succ])
      refine tk 11 39 ?_
      (try simp only [Act.put, List.setIfInBounds_toArray, List.set_cons_zero, List.set_cons_succ])
      refine tk 12 4 ?_
      (try simp only [Act.put, List.setIfInBounds_toArray, List.set_cons_zero, List.set_cons_succ])
      refine wpAnyH_done (by kernel_rfl) ?_ _
      clear hHeld
      go_wp2_with (first | go_big_skip | go_big_guard | fail)
      go_ret
      exact ⟨rfl, hD.nil⟩
end Go.Proofs.Ytkpkaoiafppimaa
namespace Go.Proofs.Ytkpkaoiafppimaa
set_option linter.unusedVariables false
set_option linter.unusedSimpArgs false
open Go.RowKit Hp
attribute [local irreducible] Go.Calls Go.wpList Hp.gvV Hp.gB Hp.gA Hp.bOr Hp.bAnd Hp.bNot inB rootB partB snapB
set_option maxRecDepth 100000
set_option maxHeartbeats 4000000
theorem rootB_ref (p : PV) : rootB p = (p.ok && (p.hole || (p.v == 3))) := by
  unfold rootB
  cases hh : p.hole
  · simp
  · rw [PV.hole_ok hh]; rfl
theorem may_any_r (x : Value × RC) (w : World) (hx : RC.In w x) : Calls Try.prog 82 #[.agg (cellsR x).toArray] w fun e w' => e = .returned (.bool x.2.aloneB) ∧ St w [] w' [] := by
  have hst0 := St.refl w
  have HX := hid hx
  have HL := hid hx.L
  have H35 := hid (PV.len (p := x.2.pv x.1) hx.L)
  clear hx
  obtain ⟨k, hk⟩ : ∃ k, k = (x.2.pv x.1).ok := ⟨_, rfl⟩
  have HK := hid hk
  clear hk
  cases k
  all_goals
    go_enter Try.func82, Try.ntmps82
    go_wp2_with (first | go_big_skip | (refine wl_boxA hst0 rfl rfl rfl ?_; intro g4 w1 hst; clear hst0) | (show wpList _ _ _ (Oper.mk _ (.fieldAddr 45 _ 2) _ _ _ (some _) :: _) _ _; refine wl_gfld (d := 2) rfl (by first | exact wanted_b rfl rfl | exact wanted_g rfl rfl) (by first | exact (fun hg => gvV_on hg) | exact (fun hg => gvV_gA hg) | exact (fun _ => rfl)) (by kernel_rfl) ?_; (try simp only [Act.put, List.setIfInBounds_toArray, List.set_cons_zero, List.set_cons_succ])) | (show wpList _ _ _ (Oper.mk _ (.fieldAddr 47 _ _) _ _ _ (some _) :: _) _ _; refine wl_gfldR rfl (by first | exact wanted_b rfl rfl | exact wanted_g rfl rfl) (by first | exact (fun hg => gvV_on hg) | exact (fun hg => gvV_gA hg) | exact (fun _ => rfl)) rfl ?_; (try simp only [Act.put, List.setIfInBounds_toArray, List.set_cons_zero, List.set_cons_succ])) | (show wpList _ _ _ (Oper.mk _ (.fieldAddr 45 _ 1) _ _ _ (some _) :: _) _ _; refine wl_gfld (d := 1) rfl (by first | exact wanted_b rfl rfl | exact wanted_g rfl rfl) (by first | exact (fun hg => gvV_on hg) | exact (fun hg => gvV_gA hg) | exact (fun _ => rfl)) (by kernel_rfl) ?_; (try simp only [Act.put, List.setIfInBounds_toArray, List.set_cons_zero, List.set_cons_succ])) | (show wpList _ _ _ (Oper.mk _ (.load _ _) _ _ _ (some _) :: _) _ _; refine wl_gloadE rfl (by first | exact wanted_b rfl rfl | exact wanted_g rfl rfl) (by first | exact (fun hg => gvV_on hg) | exact (fun hg => gvV_gA hg) | exact (fun _ => rfl)) ?_; (first | refine ⟨_, Loads.atA ((x.2.pv x.1).cells) [] hst H35.out (cellsR_root HL.out), ?_⟩ | refine ⟨_, Loads.at [] hst (cellsR_39 HL.out), ?_⟩ | refine ⟨_, Loads.at [] hst (cellsR_40 HL.out), ?_⟩ | refine ⟨_, Loads.at [] hst (cellsR_41 HL.out), ?_⟩ | refine ⟨_, Loads.at [] hst (cellsR_42 HL.out), ?_⟩ | refine ⟨_, Loads.at [] hst (cellsR_43 HL.out), ?_⟩ | refine ⟨_, Loads.at [] hst rfl, ?_⟩); (try simp only [Act.put, List.setIfInBounds_toArray, List.set_cons_zero, List.set_cons_succ]); (repeat ((first | (show wpList _ _ _ (Oper.mk _ (.move _) _ _ _ none :: _) _ _; refine wl_mv rfl rfl rfl ?_) | (show wpList _ _ _ (Oper.mk _ (.pick _ _ _) _ _ _ none :: _) _ _; (first | (refine wl_pickOr rfl rfl rfl rfl rfl ?_; intro q hq) | (refine wl_pickAnd rfl rfl rfl rfl rfl ?_; intro q hq))) | (show wpList _ _ _ (Oper.mk _ (.pick _ _ _) _ _ _ (some _) :: _) _ _; (first | (refine wl_gpickOr rfl (by first | exact wanted_b rfl rfl | exact wanted_g rfl rfl) rfl rfl rfl ?_; intro q hq) | (refine wl_gpickAnd rfl (by first | exact wanted_b rfl rfl | exact wanted_g rfl rfl) rfl rfl rfl ?_; intro q hq))) | (show wpList _ _ _ (Oper.mk _ (.move _) _ _ _ (some _) :: _) _ _; refine wl_gmove rfl (by first | exact wanted_b rfl rfl | exact wanted_g rfl rfl) (by first | exact (fun hg => gvV_on hg) | exact (fun hg => gvV_gA hg) | exact (fun _ => rfl)) ?_)); (try simp only [Act.put, List.setIfInBounds_toArray, List.set_cons_zero, List.set_cons_succ])))) | (show wpList _ _ _ (Oper.mk _ (.binOp _ 3 _ _ _) _ _ _ (some _) :: _) _ _; refine wl_gcmp rfl (by first | exact wanted_b rfl rfl | exact wanted_g rfl rfl) (by first | exact (fun hg => gvV_on hg) | exact (fun hg => gvV_gA hg) | exact (fun _ => rfl)) (by first | exact (fun hg => gvV_on hg) | exact (fun hg => gvV_gA hg) | exact (fun _ => rfl)) rfl ?_; (try simp only [Act.put, List.setIfInBounds_toArray, List.set_cons_zero, List.set_cons_succ]); (repeat ((first | (show wpList _ _ _ (Oper.mk _ (.move _) _ _ _ none :: _) _ _; refine wl_mv rfl rfl rfl ?_) | (show wpList _ _ _ (Oper.mk _ (.pick _ _ _) _ _ _ none :: _) _ _; (first | (refine wl_pickOr rfl rfl rfl rfl rfl ?_; intro q hq) | (refine wl_pickAnd rfl rfl rfl rfl rfl ?_; intro q hq))) | (show wpList _ _ _ (Oper.mk _ (.pick _ _ _) _ _ _ (some _) :: _) _ _; (first | (refine wl_gpickOr rfl (by first | exact wanted_b rfl rfl | exact wanted_g rfl rfl) rfl rfl rfl ?_; intro q hq) | (refine wl_gpickAnd rfl (by first | exact wanted_b rfl rfl | exact wanted_g rfl rfl) rfl rfl rfl ?_; intro q hq))) | (show wpList _ _ _ (Oper.mk _ (.move _) _ _ _ (some _) :: _) _ _; refine wl_gmove rfl (by first | exact wanted_b rfl rfl | exact wanted_g rfl rfl) (by first | exact (fun hg => gvV_on hg) | exact (fun hg => gvV_gA hg) | exact (fun _ => rfl)) ?_)); (try simp only [Act.put, List.setIfInBounds_toArray, List.set_cons_zero, List.set_cons_succ])))) | (show wpList _ _ _ (Oper.mk _ (.unOp .not _ _) _ _ _ (some _) :: _) _ _; refine wl_gnot rfl (by first | exact wanted_b rfl rfl | exact wanted_g rfl rfl) (by first | exact (fun hg => gvV_on hg) | exact (fun hg => gvV_gA hg) | exact (fun _ => rfl)) ?_; (try simp only [Act.put, List.setIfInBounds_toArray, List.set_cons_zero, List.set_cons_succ]); (repeat ((first | (show wpList _ _ _ (Oper.mk _ (.move _) _ _ _ none :: _) _ _; refine wl_mv rfl rfl rfl ?_) | (show wpList _ _ _ (Oper.mk _ (.pick _ _ _) _ _ _ none :: _) _ _; (first | (refine wl_pickOr rfl rfl rfl rfl rfl ?_; intro q hq) | (refine wl_pickAnd rfl rfl rfl rfl rfl ?_; intro q hq))) | (show wpList _ _ _ (Oper.mk _ (.pick _ _ _) _ _ _ (some _) :: _) _ _; (first | (refine wl_gpickOr rfl (by first | exact wanted_b rfl rfl | exact wanted_g rfl rfl) rfl rfl rfl ?_; intro q hq) | (refine wl_gpickAnd rfl (by first | exact wanted_b rfl rfl | exact wanted_g rfl rfl) rfl rfl rfl ?_; intro q hq))) | (show wpList _ _ _ (Oper.mk _ (.move _) _ _ _ (some _) :: _) _ _; refine wl_gmove rfl (by first | exact wanted_b rfl rfl | exact wanted_g rfl rfl) (by first | exact (fun hg => gvV_on hg) | exact (fun hg => gvV_gA hg) | exact (fun _ => rfl)) ?_)); (try simp only [Act.put, List.setIfInBounds_toArray, List.set_cons_zero, List.set_cons_succ])))) | (refine wl_loadE rfl rfl rfl ?_; first | refine ⟨_, Loads.atA ((x.2.pv x.1).cells) [] hst H35.out (cellsR_root HL.out), ?_⟩ | refine ⟨_, Loads.at [] hst (cellsR_39 HL.out), ?_⟩ | refine ⟨_, Loads.at [] hst (cellsR_40 HL.out), ?_⟩ | refine ⟨_, Loads.at [] hst (cellsR_41 HL.out), ?_⟩ | refine ⟨_, Loads.at [] hst (cellsR_42 HL.out), ?_⟩ | refine ⟨_, Loads.at [] hst (cellsR_43 HL.out), ?_⟩ | refine ⟨_, Loads.at [] hst rfl, ?_⟩) | (show wpList _ _ _ (Oper.mk _ (.call (Call.mk (.value (.func 55)) _ _)) _ _ _ (some _) :: _) _ _; refine wl_gcall (v := .bool (inB x.2.size 1 64)) hst (by first | exact wanted_b rfl rfl | exact wanted_g rfl rfl) ?_ ?_; (intro hg K hK; have Hg := hid hg; clear hg; go_simp; go_at_call 55; (try (conv => (arg 3; simp only [gvV_on Hg.out]))); refine (refWithin_any x.2.size 1 64 _).mono ?_; rintro _ w9 ⟨rfl, h4⟩; have hk := hK _ (St.call0 hst h4); simp only [Act.put, List.setIfInBounds_toArray, List.set_cons_zero, List.set_cons_succ] at hk; dsimp only; exact hk); (intro w5 hst5; replace hst := hst5; clear hst5; (try simp only [Act.put, List.setIfInBounds_toArray, List.set_cons_zero, List.set_cons_succ]); (repeat ((first | (show wpList _ _ _ (Oper.mk _ (.move _) _ _ _ none :: _) _ _; refine wl_mv rfl rfl rfl ?_) | (show wpList _ _ _ (Oper.mk _ (.pick _ _ _) _ _ _ none :: _) _ _; (first | (refine wl_pickOr rfl rfl rfl rfl rfl ?_; intro q hq) | (refine wl_pickAnd rfl rfl rfl rfl rfl ?_; intro q hq))) | (show wpList _ _ _ (Oper.mk _ (.pick _ _ _) _ _ _ (some _) :: _) _ _; (first | (refine wl_gpickOr rfl (by first | exact wanted_b rfl rfl | exact wanted_g rfl rfl) rfl rfl rfl ?_; intro q hq) | (refine wl_gpickAnd rfl (by first | exact wanted_b rfl rfl | exact wanted_g rfl rfl) rfl rfl rfl ?_; intro q hq))) | (show wpList _ _ _ (Oper.mk _ (.move _) _ _ _ (some _) :: _) _ _; refine wl_gmove rfl (by first | exact wanted_b rfl rfl | exact wanted_g rfl rfl) (by first | exact (fun hg => gvV_on hg) | exact (fun hg => gvV_gA hg) | exact (fun _ => rfl)) ?_)); (try simp only [Act.put, List.setIfInBounds_toArray, List.set_cons_zero, List.set_cons_succ]))))) | (show wpList _ _ _ (Oper.mk _ (.call (Call.mk (.value (.func 55)) _ _)) _ _ _ (some _) :: _) _ _; refine wl_gcall (v := .bool (inB x.2.made 1 2147483648)) hst (by first | exact wanted_b rfl rfl | exact wanted_g rfl rfl) ?_ ?_; (intro hg K hK; have Hg := hid hg; clear hg; go_simp; go_at_call 55; (try (conv => (arg 3; simp only [gvV_on Hg.out]))); refine (refWithin_any x.2.made 1 2147483648 _).mono ?_; rintro _ w9 ⟨rfl, h4⟩; have hk := hK _ (St.call0 hst h4); simp only [Act.put, List.setIfInBounds_toArray, List.set_cons_zero, List.set_cons_succ] at hk; dsimp only; exact hk); (intro w5 hst5; replace hst := hst5; clear hst5; (try simp only [Act.put, List.setIfInBounds_toArray, List.set_cons_zero, List.set_cons_succ]); (repeat ((first | (show wpList _ _ _ (Oper.mk _ (.move _) _ _ _ none :: _) _ _; refine wl_mv rfl rfl rfl ?_) | (show wpList _ _ _ (Oper.mk _ (.pick _ _ _) _ _ _ none :: _) _ _; (first | (refine wl_pickOr rfl rfl rfl rfl rfl ?_; intro q hq) | (refine wl_pickAnd rfl rfl rfl rfl rfl ?_; intro q hq))) | (show wpList _ _ _ (Oper.mk _ (.pick _ _ _) _ _ _ (some _) :: _) _ _; (first | (refine wl_gpickOr rfl (by first | exact wanted_b rfl rfl | exact wanted_g rfl rfl) rfl rfl rfl ?_; intro q hq) | (refine wl_gpickAnd rfl (by first | exact wanted_b rfl rfl | exact wanted_g rfl rfl) rfl rfl rfl ?_; intro q hq))) | (show wpList _ _ _ (Oper.mk _ (.move _) _ _ _ (some _) :: _) _ _; refine wl_gmove rfl (by first | exact wanted_b rfl rfl | exact wanted_g rfl rfl) (by first | exact (fun hg => gvV_on hg) | exact (fun hg => gvV_gA hg) | exact (fun _ => rfl)) ?_)); (try simp only [Act.put, List.setIfInBounds_toArray, List.set_cons_zero, List.set_cons_succ]))))) | (show wpList _ _ _ (Oper.mk _ (.call (Call.mk (.value (.func 55)) _ _)) _ _ _ (some _) :: _) _ _; refine wl_gcall (v := .bool (inB x.2.origin 0 2147483647)) hst (by first | exact wanted_b rfl rfl | exact wanted_g rfl rfl) ?_ ?_; (intro hg K hK; have Hg := hid hg; clear hg; go_simp; go_at_call 55; (try (conv => (arg 3; simp only [gvV_on Hg.out]))); refine (refWithin_any x.2.origin 0 2147483647 _).mono ?_; rintro _ w9 ⟨rfl, h4⟩; have hk := hK _ (St.call0 hst h4); simp only [Act.put, List.setIfInBounds_toArray, List.set_cons_zero, List.set_cons_succ] at hk; dsimp only; exact hk); (intro w5 hst5; replace hst := hst5; clear hst5; (try simp only [Act.put, List.setIfInBounds_toArray, List.set_cons_zero, List.set_cons_succ]); (repeat ((first | (show wpList _ _ _ (Oper.mk _ (.move _) _ _ _ none :: _) _ _; refine wl_mv rfl rfl rfl ?_) | (show wpList _ _ _ (Oper.mk _ (.pick _ _ _) _ _ _ none :: _) _ _; (first | (refine wl_pickOr rfl rfl rfl rfl rfl ?_; intro q hq) | (refine wl_pickAnd rfl rfl rfl rfl rfl ?_; intro q hq))) | (show wpList _ _ _ (Oper.mk _ (.pick _ _ _) _ _ _ (some _) :: _) _ _; (first | (refine wl_gpickOr rfl (by first | exact wanted_b rfl rfl | exact wanted_g rfl rfl) rfl rfl rfl ?_; intro q hq) | (refine wl_gpickAnd rfl (by first | exact wanted_b rfl rfl | exact wanted_g rfl rfl) rfl rfl rfl ?_; intro q hq))) | (show wpList _ _ _ (Oper.mk _ (.move _) _ _ _ (some _) :: _) _ _; refine wl_gmove rfl (by first | exact wanted_b rfl rfl | exact wanted_g rfl rfl) (by first | exact (fun hg => gvV_on hg) | exact (fun hg => gvV_gA hg) | exact (fun _ => rfl)) ?_)); (try simp only [Act.put, List.setIfInBounds_toArray, List.set_cons_zero, List.set_cons_succ]))))) | (show wpList _ _ _ (Oper.mk _ (.call (Call.mk (.value (.func 55)) _ _)) _ _ _ (some _) :: _) _ _; refine wl_gcall (v := .bool (inB x.2.quota 0 64)) hst (by first | exact wanted_b rfl rfl | exact wanted_g rfl rfl) ?_ ?_; (intro hg K hK; have Hg := hid hg; clear hg; go_simp; go_at_call 55; (try (conv => (arg 3; simp only [gvV_on Hg.out]))); refine (refWithin_any x.2.quota 0 64 _).mono ?_; rintro _ w9 ⟨rfl, h4⟩; have hk := hK _ (St.call0 hst h4); simp only [Act.put, List.setIfInBounds_toArray, List.set_cons_zero, List.set_cons_succ] at hk; dsimp only; exact hk); (intro w5 hst5; replace hst := hst5; clear hst5; (try simp only [Act.put, List.setIfInBounds_toArray, List.set_cons_zero, List.set_cons_succ]); (repeat ((first | (show wpList _ _ _ (Oper.mk _ (.move _) _ _ _ none :: _) _ _; refine wl_mv rfl rfl rfl ?_) | (show wpList _ _ _ (Oper.mk _ (.pick _ _ _) _ _ _ none :: _) _ _; (first | (refine wl_pickOr rfl rfl rfl rfl rfl ?_; intro q hq) | (refine wl_pickAnd rfl rfl rfl rfl rfl ?_; intro q hq))) | (show wpList _ _ _ (Oper.mk _ (.pick _ _ _) _ _ _ (some _) :: _) _ _; (first | (refine wl_gpickOr rfl (by first | exact wanted_b rfl rfl | exact wanted_g rfl rfl) rfl rfl rfl ?_; intro q hq) | (refine wl_gpickAnd rfl (by first | exact wanted_b rfl rfl | exact wanted_g rfl rfl) rfl rfl rfl ?_; intro q hq))) | (show wpList _ _ _ (Oper.mk _ (.move _) _ _ _ (some _) :: _) _ _; refine wl_gmove rfl (by first | exact wanted_b rfl rfl | exact wanted_g rfl rfl) (by first | exact (fun hg => gvV_on hg) | exact (fun hg => gvV_gA hg) | exact (fun _ => rfl)) ?_)); (try simp only [Act.put, List.setIfInBounds_toArray, List.set_cons_zero, List.set_cons_succ]))))) | (show wpList _ _ _ (Oper.mk _ (.call (Call.mk (.value (.func 55)) _ _)) _ _ _ (some _) :: _) _ _; refine wl_gcall (v := .bool (inB x.2.reserve 0 64)) hst (by first | exact wanted_b rfl rfl | exact wanted_g rfl rfl) ?_ ?_; (intro hg K hK; have Hg := hid hg; clear hg; go_simp; go_at_call 55; (try (conv => (arg 3; simp only [gvV_on Hg.out]))); refine (refWithin_any x.2.reserve 0 64 _).mono ?_; rintro _ w9 ⟨rfl, h4⟩; have hk := hK _ (St.call0 hst h4); simp only [Act.put, List.setIfInBounds_toArray, List.set_cons_zero, List.set_cons_succ] at hk; dsimp only; exact hk); (intro w5 hst5; replace hst := hst5; clear hst5; (try simp only [Act.put, List.setIfInBounds_toArray, List.set_cons_zero, List.set_cons_succ]); (repeat ((first | (show wpList _ _ _ (Oper.mk _ (.move _) _ _ _ none :: _) _ _; refine wl_mv rfl rfl rfl ?_) | (show wpList _ _ _ (Oper.mk _ (.pick _ _ _) _ _ _ none :: _) _ _; (first | (refine wl_pickOr rfl rfl rfl rfl rfl ?_; intro q hq) | (refine wl_pickAnd rfl rfl rfl rfl rfl ?_; intro q hq))) | (show wpList _ _ _ (Oper.mk _ (.pick _ _ _) _ _ _ (some _) :: _) _ _; (first | (refine wl_gpickOr rfl (by first | exact wanted_b rfl rfl | exact wanted_g rfl rfl) rfl rfl rfl ?_; intro q hq) | (refine wl_gpickAnd rfl (by first | exact wanted_b rfl rfl | exact wanted_g rfl rfl) rfl rfl rfl ?_; intro q hq))) | (show wpList _ _ _ (Oper.mk _ (.move _) _ _ _ (some _) :: _) _ _; refine wl_gmove rfl (by first | exact wanted_b rfl rfl | exact wanted_g rfl rfl) (by first | exact (fun hg => gvV_on hg) | exact (fun hg => gvV_gA hg) | exact (fun _ => rfl)) ?_)); (try simp only [Act.put, List.setIfInBounds_toArray, List.set_cons_zero, List.set_cons_succ]))))) | (show wpList _ _ _ (Oper.mk _ (.call (Call.mk (.value (.func 55)) _ _)) _ _ _ (some _) :: _) _ _; refine wl_gcall (v := .bool (inB x.2.own 1 2147483647)) hst (by first | exact wanted_b rfl rfl | exact wanted_g rfl rfl) ?_ ?_; (intro hg K hK; have Hg := hid hg; clear hg; go_simp; go_at_call 55; (try (conv => (arg 3; simp only [gvV_on Hg.out]))); refine (refWithin_any x.2.own 1 2147483647 _).mono ?_; rintro _ w9 ⟨rfl, h4⟩; have hk := hK _ (St.call0 hst h4); simp only [Act.put, List.setIfInBounds_toArray, List.set_cons_zero, List.set_cons_succ] at hk; dsimp only; exact hk); (intro w5 hst5; replace hst := hst5; clear hst5; (try simp only [Act.put, List.setIfInBounds_toArray, List.set_cons_zero, List.set_cons_succ]); (repeat ((first | (show wpList _ _ _ (Oper.mk _ (.move _) _ _ _ none :: _) _ _; refine wl_mv rfl rfl rfl ?_) | (show wpList _ _ _ (Oper.mk _ (.pick _ _ _) _ _ _ none :: _) _ _; (first | (refine wl_pickOr rfl rfl rfl rfl rfl ?_; intro q hq) | (refine wl_pickAnd rfl rfl rfl rfl rfl ?_; intro q hq))) | (show wpList _ _ _ (Oper.mk _ (.pick _ _ _) _ _ _ (some _) :: _) _ _; (first | (refine wl_gpickOr rfl (by first | exact wanted_b rfl rfl | exact wanted_g rfl rfl) rfl rfl rfl ?_; intro q hq) | (refine wl_gpickAnd rfl (by first | exact wanted_b rfl rfl | exact wanted_g rfl rfl) rfl rfl rfl ?_; intro q hq))) | (show wpList _ _ _ (Oper.mk _ (.move _) _ _ _ (some _) :: _) _ _; refine wl_gmove rfl (by first | exact wanted_b rfl rfl | exact wanted_g rfl rfl) (by first | exact (fun hg => gvV_on hg) | exact (fun hg => gvV_gA hg) | exact (fun _ => rfl)) ?_)); (try simp only [Act.put, List.setIfInBounds_toArray, List.set_cons_zero, List.set_cons_succ]))))) | (go_at_call 81; refine (refCheck_pv (x.2.pv x.1) _ (PV.In.old hst HX.out.1)).mono ?_; rw [← HK.out]; rintro _ w9 ⟨rfl, h4⟩; replace hst := St.call0 hst h4; clear h4; (try simp only [Act.put, List.setIfInBounds_toArray, List.set_cons_zero, List.set_cons_succ]); (repeat ((first | (show wpList _ _ _ (Oper.mk _ (.move _) _ _ _ none :: _) _ _; refine wl_mv rfl rfl rfl ?_) | (show wpList _ _ _ (Oper.mk _ (.pick _ _ _) _ _ _ none :: _) _ _; (first | (refine wl_pickOr rfl rfl rfl rfl rfl ?_; intro q hq) | (refine wl_pickAnd rfl rfl rfl rfl rfl ?_; intro q hq))) | (show wpList _ _ _ (Oper.mk _ (.pick _ _ _) _ _ _ (some _) :: _) _ _; (first | (refine wl_gpickOr rfl (by first | exact wanted_b rfl rfl | exact wanted_g rfl rfl) rfl rfl rfl ?_; intro q hq) | (refine wl_gpickAnd rfl (by first | exact wanted_b rfl rfl | exact wanted_g rfl rfl) rfl rfl rfl ?_; intro q hq))) | (show wpList _ _ _ (Oper.mk _ (.move _) _ _ _ (some _) :: _) _ _; refine wl_gmove rfl (by first | exact wanted_b rfl rfl | exact wanted_g rfl rfl) (by first | exact (fun hg => gvV_on hg) | exact (fun hg => gvV_gA hg) | exact (fun _ => rfl)) ?_)); (try simp only [Act.put, List.setIfInBounds_toArray, List.set_cons_zero, List.set_cons_succ])))) | (show wpList _ _ _ (Oper.mk _ (.call (Call.mk (.value (.func 96)) _ _)) _ _ _ (some _) :: _) _ _; refine wl_gcall (v := .bool (x.2.pv x.1).hole) hst (by first | exact wanted_b rfl rfl | exact wanted_g rfl rfl) ?_ ?_; (intro hg K hK; have Hg := hid hg; clear hg; go_simp; go_at_call 96; (try (conv => (arg 3; simp only [gvV_on Hg.out]))); refine (refHole_pv (x.2.pv x.1) _ (PV.In.old hst HX.out.1)).mono ?_; rintro _ w9 ⟨rfl, h4⟩; have hk := hK _ (St.call0 hst h4); simp only [Act.put, List.setIfInBounds_toArray, List.set_cons_zero, List.set_cons_succ] at hk; dsimp only; exact hk); (intro w5 hst5; replace hst := hst5; clear hst5; (try simp only [Act.put, List.setIfInBounds_toArray, List.set_cons_zero, List.set_cons_succ]); (repeat ((first | (show wpList _ _ _ (Oper.mk _ (.move _) _ _ _ none :: _) _ _; refine wl_mv rfl rfl rfl ?_) | (show wpList _ _ _ (Oper.mk _ (.pick _ _ _) _ _ _ none :: _) _ _; (first | (refine wl_pickOr rfl rfl rfl rfl rfl ?_; intro q hq) | (refine wl_pickAnd rfl rfl rfl rfl rfl ?_; intro q hq))) | (show wpList _ _ _ (Oper.mk _ (.pick _ _ _) _ _ _ (some _) :: _) _ _; (first | (refine wl_gpickOr rfl (by first | exact wanted_b rfl rfl | exact wanted_g rfl rfl) rfl rfl rfl ?_; intro q hq) | (refine wl_gpickAnd rfl (by first | exact wanted_b rfl rfl | exact wanted_g rfl rfl) rfl rfl rfl ?_; intro q hq))) | (show wpList _ _ _ (Oper.mk _ (.move _) _ _ _ (some _) :: _) _ _; refine wl_gmove rfl (by first | exact wanted_b rfl rfl | exact wanted_g rfl rfl) (by first | exact (fun hg => gvV_on hg) | exact (fun hg => gvV_gA hg) | exact (fun _ => rfl)) ?_)); (try simp only [Act.put, List.setIfInBounds_toArray, List.set_cons_zero, List.set_cons_succ]))))) | (go_at_call 96; refine (refHole_pv (x.2.pv x.1) _ (PV.In.old hst HX.out.1)).mono ?_; rintro _ w9 ⟨rfl, h4⟩; replace hst := St.call0 hst h4; clear h4; (try simp only [Act.put, List.setIfInBounds_toArray, List.set_cons_zero, List.set_cons_succ]); (repeat ((first | (show wpList _ _ _ (Oper.mk _ (.move _) _ _ _ none :: _) _ _; refine wl_mv rfl rfl rfl ?_) | (show wpList _ _ _ (Oper.mk _ (.pick _ _ _) _ _ _ none :: _) _ _; (first | (refine wl_pickOr rfl rfl rfl rfl rfl ?_; intro q hq) | (refine wl_pickAnd rfl rfl rfl rfl rfl ?_; intro q hq))) | (show wpList _ _ _ (Oper.mk _ (.pick _ _ _) _ _ _ (some _) :: _) _ _; (first | (refine wl_gpickOr rfl (by first | exact wanted_b rfl rfl | exact wanted_g rfl rfl) rfl rfl rfl ?_; intro q hq) | (refine wl_gpickAnd rfl (by first | exact wanted_b rfl rfl | exact wanted_g rfl rfl) rfl rfl rfl ?_; intro q hq))) | (show wpList _ _ _ (Oper.mk _ (.move _) _ _ _ (some _) :: _) _ _; refine wl_gmove rfl (by first | exact wanted_b rfl rfl | exact wanted_g rfl rfl) (by first | exact (fun hg => gvV_on hg) | exact (fun hg => gvV_gA hg) | exact (fun _ => rfl)) ?_)); (try simp only [Act.put, List.setIfInBounds_toArray, List.set_cons_zero, List.set_cons_succ])))) | (go_at_call 55; refine (refWithin_any x.2.id _ _ _).mono ?_; rintro _ w9 ⟨rfl, h4⟩; replace hst := St.call0 hst h4; clear h4; (try simp only [Act.put, List.setIfInBounds_toArray, List.set_cons_zero, List.set_cons_succ]); (repeat ((first | (show wpList _ _ _ (Oper.mk _ (.move _) _ _ _ none :: _) _ _; refine wl_mv rfl rfl rfl ?_) | (show wpList _ _ _ (Oper.mk _ (.pick _ _ _) _ _ _ none :: _) _ _; (first | (refine wl_pickOr rfl rfl rfl rfl rfl ?_; intro q hq) | (refine wl_pickAnd rfl rfl rfl rfl rfl ?_; intro q hq))) | (show wpList _ _ _ (Oper.mk _ (.pick _ _ _) _ _ _ (some _) :: _) _ _; (first | (refine wl_gpickOr rfl (by first | exact wanted_b rfl rfl | exact wanted_g rfl rfl) rfl rfl rfl ?_; intro q hq) | (refine wl_gpickAnd rfl (by first | exact wanted_b rfl rfl | exact wanted_g rfl rfl) rfl rfl rfl ?_; intro q hq))) | (show wpList _ _ _ (Oper.mk _ (.move _) _ _ _ (some _) :: _) _ _; refine wl_gmove rfl (by first | exact wanted_b rfl rfl | exact wanted_g rfl rfl) (by first | exact (fun hg => gvV_on hg) | exact (fun hg => gvV_gA hg) | exact (fun _ => rfl)) ?_)); (try simp only [Act.put, List.setIfInBounds_toArray, List.set_cons_zero, List.set_cons_succ])))) | (go_at_call 98; refine (refVolume_any x.2.name _ HX.out.2).mono ?_; rintro _ w9 ⟨rfl, h4⟩; replace hst := St.call0 hst h4; clear h4; (try simp only [Act.put, List.setIfInBounds_toArray, List.set_cons_zero, List.set_cons_succ]); (repeat ((first | (show wpList _ _ _ (Oper.mk _ (.move _) _ _ _ none :: _) _ _; refine wl_mv rfl rfl rfl ?_) | (show wpList _ _ _ (Oper.mk _ (.pick _ _ _) _ _ _ none :: _) _ _; (first | (refine wl_pickOr rfl rfl rfl rfl rfl ?_; intro q hq) | (refine wl_pickAnd rfl rfl rfl rfl rfl ?_; intro q hq))) | (show wpList _ _ _ (Oper.mk _ (.pick _ _ _) _ _ _ (some _) :: _) _ _; (first | (refine wl_gpickOr rfl (by first | exact wanted_b rfl rfl | exact wanted_g rfl rfl) rfl rfl rfl ?_; intro q hq) | (refine wl_gpickAnd rfl (by first | exact wanted_b rfl rfl | exact wanted_g rfl rfl) rfl rfl rfl ?_; intro q hq))) | (show wpList _ _ _ (Oper.mk _ (.move _) _ _ _ (some _) :: _) _ _; refine wl_gmove rfl (by first | exact wanted_b rfl rfl | exact wanted_g rfl rfl) (by first | exact (fun hg => gvV_on hg) | exact (fun hg => gvV_gA hg) | exact (fun _ => rfl)) ?_)); (try simp only [Act.put, List.setIfInBounds_toArray, List.set_cons_zero, List.set_cons_succ])))) | (go_at_call 99; refine (refSnap_any x.2.name _ HX.out.2).mono ?_; rintro _ w9 ⟨rfl, h4⟩; replace hst := St.call0 hst h4; clear h4; (try simp only [Act.put, List.setIfInBounds_toArray, List.set_cons_zero, List.set_cons_succ]); (repeat ((first | (show wpList _ _ _ (Oper.mk _ (.move _) _ _ _ none :: _) _ _; refine wl_mv rfl rfl rfl ?_) | (show wpList _ _ _ (Oper.mk _ (.pick _ _ _) _ _ _ none :: _) _ _; (first | (refine wl_pickOr rfl rfl rfl rfl rfl ?_; intro q hq) | (refine wl_pickAnd rfl rfl rfl rfl rfl ?_; intro q hq))) | (show wpList _ _ _ (Oper.mk _ (.pick _ _ _) _ _ _ (some _) :: _) _ _; (first | (refine wl_gpickOr rfl (by first | exact wanted_b rfl rfl | exact wanted_g rfl rfl) rfl rfl rfl ?_; intro q hq) | (refine wl_gpickAnd rfl (by first | exact wanted_b rfl rfl | exact wanted_g rfl rfl) rfl rfl rfl ?_; intro q hq))) | (show wpList _ _ _ (Oper.mk _ (.move _) _ _ _ (some _) :: _) _ _; refine wl_gmove rfl (by first | exact wanted_b rfl rfl | exact wanted_g rfl rfl) (by first | exact (fun hg => gvV_on hg) | exact (fun hg => gvV_gA hg) | exact (fun _ => rfl)) ?_)); (try simp only [Act.put, List.setIfInBounds_toArray, List.set_cons_zero, List.set_cons_succ])))))
    all_goals go_ret
    all_goals refine ⟨congrArg (fun z => Ending.returned (Value.bool z)) (?_ : (_ : Bool) = x.2.aloneB), hst.nil⟩
    all_goals
      have e := alone_eq x
      have e2 : (x.2.pv x.1).v = x.2.v := rfl
      have hk := HK.out
      clear HX HL H35 hst HK
      rw [e, RC.kindB, rootB_ref, e2, ← hk]
      simp only [hid_iff, bNot_eq, e2] at *
      clear e e2 hk
      (simp_all only [← Bool.not_and, ← Bool.not_or, bne, Bool.not_eq_true', Bool.not_eq_false', Bool.false_or, Bool.true_or, Bool.or_false, Bool.or_true, Bool.not_true, Bool.not_false, Bool.and_true, Bool.and_false, Bool.true_and, Bool.false_and, if_true, if_false, Bool.false_eq_true]) <;> rfl
end Go.Proofs.Ytkpkaoiafppimaa
namespace Go.Proofs.Ytkpkaoiafppimaa
set_option linter.unusedVariables false
set_option linter.unusedSimpArgs false
open Go.RowKit Hp
attribute [local irreducible] Go.Calls
set_option maxRecDepth 100000
set_option maxHeartbeats 4000000
attribute [local go_sem ↓] heldInt heldRecs heldStr heldRec
def bothB (next : Int) (l : List RC) (i : Nat) (r : RC) : Bool := eachB l i r && relB next l i r
theorem both_all (next : Int) (l : List RC) : allAt (bothB next l) l = (allAt (eachB l) l && allAt (relB next l) l) := by
  rw [Bool.eq_iff_iff, Bool.and_eq_true]
  constructor
  · intro h
    exact ⟨allAt_all fun i r hi => (Bool.and_eq_true_iff.1 (allAt_at h hi)).1, allAt_all fun i r hi => (Bool.and_eq_true_iff.1 (allAt_at h hi)).2⟩
  · rintro ⟨h1, h2⟩
    exact allAt_all fun i r hi => by unfold bothB; rw [allAt_at h1 hi, allAt_at h2 hi]; rfl
theorem records_any_r (t : TC) (lv : Value) (ar : Option Addr) (nr cr : Nat) (xs : List (Value × RC)) (w : World) (hR : RecsIn w (.slice ar nr cr) nr xs) (hb : nr ≤ 1000000) :
    Calls Try.prog 56 #[.agg (tabC t (.slice ar nr cr) lv).toArray] w fun e w' => e = .returned (.bool (allAt (bothB t.next (xs.map (·.2))) (xs.map (·.2)))) ∧ St w [] w' [] := by
  have hst0 := St.refl w
  have hcr : nr ≤ cr ∧ cr ≤ maxLen := by
    obtain ⟨_, ao', c0, he, hn, hcm, _⟩ := hR.rd
    cases he
    exact ⟨hn, hcm⟩
  have HR := hid hR
  clear hR
  obtain ⟨hc1, hc2⟩ := hcr
  unfold maxLen at hc2
  obtain ⟨E, hE⟩ : ∃ E, E = allAt (bothB t.next (xs.map (·.2))) (xs.map (·.2)) := ⟨_, rfl⟩
  rw [← hE]
  have HE := hid hE
  clear hE
  go_enter Try.func56, Try.ntmps56
  go_wp2_with (first | go_big_skip | go_big_guard | (refine wl_boxA hst0 rfl rfl rfl ?_; intro g1 w1 hst; clear hst0))
  go_loopw [3] (fun i wr => ∃ j : Nat, j ≤ nr ∧ i = .int .i64 (j : Int) ∧ St w [] wr [.blk g1 30 (tabC t (.slice ar nr cr) lv)] ∧ Hid (∀ i y, i < j → xs[i]? = some y → bothB t.next (xs.map (·.2)) i y.2 = true)) (fun i _ => nr - (intOf i).toNat)
  case atStart => exact ⟨0, Nat.zero_le _, rfl, hst, hid (fun i y hi _ => by omega)⟩
  case round =>
    clear hst
    obtain ⟨j, hj, rfl, hst, HP⟩ := hrel
    by_cases hlt : j < nr
    · have e1 : decide ((j : Int) < (nr : Int)) = true := decide_eq_true (by omega)
      have z1 : IntKind.i64.wrap ((j : Int) + 1) = (j : Int) + 1 := IntWalk.i64_in _ (by omega)
      obtain ⟨x, lb, lo, hxj, rfl, hin, hr⟩ := RecsIn.at HR.out hlt
      have HXJ := hid hxj
      have HIN := hid hin
      have HL := hid (cellsR_len hin.L)
      have HWR := hid hr
      clear hxj hin hr
      obtain ⟨q, hq⟩ : ∃ q, q = x.2.aloneB := ⟨_, rfl⟩
      have HQ := hid hq
      clear hq
      cases q
      · go_wp2_with (first | go_big_skip | go_big_guard | (refine wl_loadE rfl rfl rfl ?_; first | refine ⟨_, Loads.at [] hst rfl, ?_⟩) | (refine wl_index rfl rfl rfl rfl hlt ?_) | (refine wl_loadE rfl rfl rfl ?_; first | refine ⟨_, Loads.oldA (cs := cellsR x) hst HL.out HWR.out, ?_⟩) | (refine wl_alloc hst rfl rfl ?_; intro gx w2 hst2; clear hst) | (refine wl_storeA [] hst2 rfl rfl rfl rfl (by exact HL.out) (cellsR_ones HIN.out) rfl ?_; intro w3 hst3; clear hst2))
        have hX := hst3.drew
        clear hst3
        refine wp_region_held_drew (S := (fun w' => (loadVarH 47 ⟨gx, 0, none⟩).run Try.prog w' = .ok (.agg (List.toArray (cellsR x))) w' ∧ (loadVarH 3 ⟨gx, 0, none⟩).run Try.prog w' = .ok (.int .i64 x.2.id) w' ∧ (loadVarH 3 ⟨g1, 0, none⟩).run Try.prog w' = .ok (.int .i64 t.next) w')) (by kernel_rfl) (by exact ⟨ldA (cellsR x) [] hX (HL.out) (by simp), ldS [] hX rfl, ldS [_] hX rfl⟩) (fun hHeld => ?_)
        refine tk 0 18 ?_
        (try simp only [Act.put, List.setIfInBounds_toArray, List.set_cons_zero, List.set_cons_succ])
        refine wpAnyH_ready (rs := [1]) (by kernel_rfl) (by simp) ?_
        refine (AllReadyH.cons (o := ⟨some 19, _, _, _, _, _⟩) rfl (fun K hK => ?_) AllReadyH.nil)
        rw [if_pos (by rfl)]
        go_simp
        go_at_call 82
        refine (may_any_r x _ (RC.In.old hX HIN.out)).mono ?_
        rw [← HQ.out]
        rintro _ w4 ⟨rfl, h4⟩
        have hA1 := St.call0 hX h4
        clear h4
        refine hK.out _ _ ?_ (fun hHeld => ?_)
        · exact ⟨ldA (cellsR x) [] hA1 (HL.out) (by simp), ldS [] hA1 rfl, ldS [_] hA1 rfl⟩
        clear hK K
        (try simp only [Act.put, List.setIfInBounds_toArray, List.set_cons_zero, List.set_cons_succ])
        refine tk 2 20 ?_
        (try simp only [Act.put, List.setIfInBounds_toArray, List.set_cons_zero, List.set_cons_succ])
        refine tk 3 21 ?_
        (try simp only [Act.put, List.setIfInBounds_toArray, List.set_cons_zero, List.set_cons_succ])
        refine wpAnyH_take (i := 4) (oi := ⟨some 22, _, _, _, _, _⟩) (v := undef) rfl (by kernel_rfl) (by kernel_rfl) (by kernel_rfl) (fun _ _ _ h => h) (Or.inr ⟨by rfl, rfl⟩) (by assumption) ?_
        (try simp only [Act.put, List.setIfInBounds_toArray, List.set_cons_zero, List.set_cons_succ])
        refine wpAnyH_take (i := 6) (oi := ⟨some 24, _, _, _, _, _⟩) (v := undef) rfl (by kernel_rfl) (by kernel_rfl) (by kernel_rfl) (fun _ _ _ h => h) (Or.inr ⟨by rfl, rfl⟩) (by assumption) ?_
        (try simp only [Act.put, List.setIfInBounds_toArray, List.set_cons_zero, List.set_cons_succ])
        refine wpAnyH_take (i := 5) (oi := ⟨some 23, _, _, _, _, _⟩) (v := undef) rfl (by kernel_rfl) (by kernel_rfl) (by kernel_rfl) (fun _ _ _ h => h) (Or.inr ⟨by rfl, rfl⟩) (by assumption) ?_
        (try simp only [Act.put, List.setIfInBounds_toArray, List.set_cons_zero, List.set_cons_succ])
        refine wpAnyH_take (i := 7) (oi := ⟨some 25, _, _, _, _, _⟩) (v := undef) rfl (by kernel_rfl) (by kernel_rfl) (by kernel_rfl) (fun _ _ _ h => h) (Or.inr ⟨by rfl, rfl⟩) (by assumption) ?_
        (try simp only [Act.put, List.setIfInBounds_toArray, List.set_cons_zero, List.set_cons_succ])
        refine wpAnyH_take (i := 8) (oi := ⟨some 26, _, _, _, _, _⟩) (v := undef) rfl (by kernel_rfl) (by kernel_rfl) (by kernel_rfl) (fun _ _ _ h => h) (Or.inr ⟨by rfl, rfl⟩) (by assumption) ?_
        (try simp only [Act.put, List.setIfInBounds_toArray, List.set_cons_zero, List.set_cons_succ])
        refine tk 9 27 ?_
        (try simp only [Act.put, List.setIfInBounds_toArray, List.set_cons_zero, List.set_cons_succ])
        refine tk 10 28 ?_
        (try simp only [Act.put, List.setIfInBounds_toArray, List.set_cons_zero, List.set_cons_succ])
        refine wpAnyH_take (i := 11) (oi := ⟨some 29, _, _, _, _, _⟩) (v := undef) rfl (by kernel_rfl) (by kernel_rfl) (by kernel_rfl) (fun _ _ _ h => h) (Or.inr ⟨by rfl, rfl⟩) (by assumption) ?_
        (try simp only [Act.put, List.setIfInBounds_toArray, List.set_cons_zero, List.set_cons_succ])
        refine wpAnyH_take (i := 12) (oi := ⟨some 30, _, _, _, _, _⟩) (v := undef) rfl (by kernel_rfl) (by kernel_rfl) (by kernel_rfl) (fun _ _ _ h => h) (Or.inr ⟨by rfl, rfl⟩) (by assumption) ?_
        (try simp only [Act.put, List.setIfInBounds_toArray, List.set_cons_zero, List.set_cons_succ])
        refine wpAnyH_take (i := 13) (oi := ⟨some 31, _, _, _, _, _⟩) (v := undef) rfl (by kernel_rfl) (by kernel_rfl) (by kernel_rfl) (fun _ _ _ h => h) (Or.inr ⟨by rfl, rfl⟩) (by assumption) ?_
        (try simp only [Act.put, List.setIfInBounds_toArray, List.set_cons_zero, List.set_cons_succ])
        refine wpAnyH_take (i := 14) (oi := ⟨some 32, _, _, _, _, _⟩) (v := undef) rfl (by kernel_rfl) (by kernel_rfl) (by kernel_rfl) (fun _ _ _ h => h) (Or.inr ⟨by rfl, rfl⟩) (by assumption) ?_
        (try simp only [Act.put, List.setIfInBounds_toArray, List.set_cons_zero, List.set_cons_succ])
        refine wpAnyH_take (i := 16) (oi := ⟨some 34, _, _, _, _, _⟩) (v := undef) rfl (by kernel_rfl) (by kernel_rfl) (by kernel_rfl) (fun _ _ _ h => h) (Or.inr ⟨by rfl, rfl⟩) (by assumption) ?_
        (try simp only [Act.put, List.setIfInBounds_toArray, List.set_cons_zero, List.set_cons_succ])
        refine wpAnyH_take (i := 21) (oi := ⟨some 39, _, _, _, _, _⟩) (v := undef) rfl (by kernel_rfl) (by kernel_rfl) (by kernel_rfl) (fun _ _ _ h => h) (Or.inr ⟨by rfl, rfl⟩) (by assumption) ?_
        (try simp only [Act.put, List.setIfInBounds_toArray, List.set_cons_zero, List.set_cons_succ])
        refine wpAnyH_take (i := 15) (oi := ⟨some 33, _, _, _, _, _⟩) (v := undef) rfl (by kernel_rfl) (by kernel_rfl) (by kernel_rfl) (fun _ _ _ h => h) (Or.inr ⟨by rfl, rfl⟩) (by assumption) ?_
        (try simp only [Act.put, List.setIfInBounds_toArray, List.set_cons_zero, List.set_cons_succ])
        refine wpAnyH_take (i := 17) (oi := ⟨some 35, _, _, _, _, _⟩) (v := undef) rfl (by kernel_rfl) (by kernel_rfl) (by kernel_rfl) (fun _ _ _ h => h) (Or.inr ⟨by rfl, rfl⟩) (by assumption) ?_
        (try simp only [Act.put, List.setIfInBounds_toArray, List.set_cons_zero, List.set_cons_succ])
        refine wpAnyH_take (i := 22) (oi := ⟨some 40, _, _, _, _, _⟩) (v := undef) rfl (by kernel_rfl) (by kernel_rfl) (by kernel_rfl) (fun _ _ _ h => h) (Or.inr ⟨by rfl, rfl⟩) (by assumption) ?_
        (try simp only [Act.put, List.setIfInBounds_toArray, List.set_cons_zero, List.set_cons_succ])
        refine wpAnyH_take (i := 18) (oi := ⟨some 36, _, _, _, _, _⟩) (v := undef) rfl (by kernel_rfl) (by kernel_rfl) (by kernel_rfl) (fun _ _ _ h => h) (Or.inr ⟨by rfl, rfl⟩) (by assumption) ?_
        (try simp only [Act.put, List.setIfInBounds_toArray, List.set_cons_zero, List.set_cons_succ])
        refine wpAnyH_take (i := 19) (oi := ⟨some 37, _, _, _, _, _⟩) (v := undef) rfl (by kernel_rfl) (by kernel_rfl) (by kernel_rfl) (fun _ _ _ h => h) (Or.inr ⟨by rfl, rfl⟩) (by assumption) ?_
        (try simp only [Act.put, List.setIfInBounds_toArray, List.set_cons_zero, List.set_cons_succ])
        refine wpAnyH_take (i := 20) (oi := ⟨some 38, _, _, _, _, _⟩) (v := undef) rfl (by kernel_rfl) (by kernel_rfl) (by kernel_rfl) (fun _ _ _ h => h) (Or.inr ⟨by rfl, rfl⟩) (by assumption) ?_
        (try simp only [Act.put, List.setIfInBounds_toArray, List.set_cons_zero, List.set_cons_succ])
        refine wpAnyH_ready (rs := [23]) (by kernel_rfl) (by simp) ?_
        refine (AllReadyH.cons (o := ⟨some 41, _, _, _, _, _⟩) rfl (fun K hK => ?_) AllReadyH.nil)
        rw [if_neg (by rw [show Region.wanted _ _ = false from rfl]; exact Bool.false_ne_true)]
        refine hK.out _ _ ?_ (fun hHeld => ?_)
        · exact ⟨ldA (cellsR x) [] hA1 (HL.out) (by simp), ldS [] hA1 rfl, ldS [_] hA1 rfl⟩
        clear hK K
        (try simp only [Act.put, List.setIfInBounds_toArray, List.set_cons_zero, List.set_cons_succ])
        refine wpAnyH_take (i := 24) (oi := ⟨some 42, _, _, _, _, _⟩) (v := undef) rfl (by kernel_rfl) (by kernel_rfl) (by kernel_rfl) (fun _ _ _ h => h) (Or.inr ⟨by rfl, rfl⟩) (by assumption) ?_
        (try simp only [Act.put, List.setIfInBounds_toArray, List.set_cons_zero, List.set_cons_succ])
        refine wpAnyH_take (i := 25) (oi := ⟨some 43, _, _, _, _, _⟩) (v := undef) rfl (by kernel_rfl) (by kernel_rfl) (by kernel_rfl) (fun _ _ _ h => h) (Or.inr ⟨by rfl, rfl⟩) (by assumption) ?_
        (try simp only [Act.put, List.setIfInBounds_toArray, List.set_cons_zero, List.set_cons_succ])
        refine tk 26 44 ?_
        (try simp only [Act.put, List.setIfInBounds_toArray, List.set_cons_zero, List.set_cons_succ])
        refine wpAnyH_done (by kernel_rfl) ?_ _
        clear hHeld
        have hv : E = false := by rw [HE.out]; exact allAt_no (map_at HXJ.out) (by unfold bothB eachB relB; rw [← HQ.out]; rfl)
        have HV := hid hv
        clear hv
        go_wp2_with (first | go_big_skip | go_big_guard | fail)
        go_ret
        exact ⟨by have h := HV.out; subst h; rfl, hA1.nil⟩
      · by_cases k2 : x.2.id < t.next
        · have d3 : decide (x.2.id ≥ t.next) = false := decide_eq_false (by omega)
          have d4 : decide (t.next ≤ x.2.id) = false := d3
          have HLT := hid (decide_eq_true k2)
          clear k2
          by_cases k3 : j = 0
          · have z7 : decide (0 < j) = false := decide_eq_false (by omega)
            have z4 : decide ((0 : Int) < (j : Int)) = false := decide_eq_false (by omega)
            have z5 : decide ((j : Int) > 0) = false := z4
            have HJ := hid k3
            clear k3
            go_wp2_with (first | go_big_skip | go_big_guard | (refine wl_loadE rfl rfl rfl ?_; first | refine ⟨_, Loads.at [] hst rfl, ?_⟩) | (refine wl_index rfl rfl rfl rfl hlt ?_) | (refine wl_loadE rfl rfl rfl ?_; first | refine ⟨_, Loads.oldA (cs := cellsR x) hst HL.out HWR.out, ?_⟩) | (refine wl_alloc hst rfl rfl ?_; intro gx w2 hst2; clear hst) | (refine wl_storeA [] hst2 rfl rfl rfl rfl (by exact HL.out) (cellsR_ones HIN.out) rfl ?_; intro w3 hst3; clear hst2))
            have hX := hst3.drew
            clear hst3
            refine wp_region_held_drew (S := (fun w' => (loadVarH 47 ⟨gx, 0, none⟩).run Try.prog w' = .ok (.agg (List.toArray (cellsR x))) w' ∧ (loadVarH 3 ⟨gx, 0, none⟩).run Try.prog w' = .ok (.int .i64 x.2.id) w' ∧ (loadVarH 3 ⟨g1, 0, none⟩).run Try.prog w' = .ok (.int .i64 t.next) w')) (by kernel_rfl) (by exact ⟨ldA (cellsR x) [] hX (HL.out) (by simp), ldS [] hX rfl, ldS [_] hX rfl⟩) (fun hHeld => ?_)
            refine tk 0 18 ?_
            (try simp only [Act.put, List.setIfInBounds_toArray, List.set_cons_zero, List.set_cons_succ])
            refine wpAnyH_ready (rs := [1]) (by kernel_rfl) (by simp) ?_
            refine (AllReadyH.cons (o := ⟨some 19, _, _, _, _, _⟩) rfl (fun K hK => ?_) AllReadyH.nil)
            rw [if_pos (by rfl)]
            go_simp
            go_at_call 82
            refine (may_any_r x _ (RC.In.old hX HIN.out)).mono ?_
            rw [← HQ.out]
            rintro _ w4 ⟨rfl, h4⟩
            have hA1 := St.call0 hX h4
            clear h4
            refine hK.out _ _ ?_ (fun hHeld => ?_)
            · exact ⟨ldA (cellsR x) [] hA1 (HL.out) (by simp), ldS [] hA1 rfl, ldS [_] hA1 rfl⟩
            clear hK K
            (try simp only [Act.put, List.setIfInBounds_toArray, List.set_cons_zero, List.set_cons_succ])
            refine tk 2 20 ?_
            (try simp only [Act.put, List.setIfInBounds_toArray, List.set_cons_zero, List.set_cons_succ])
            refine tk 3 21 ?_
            (try simp only [Act.put, List.setIfInBounds_toArray, List.set_cons_zero, List.set_cons_succ])
            refine tk 4 22 ?_
            (try simp only [Act.put, List.setIfInBounds_toArray, List.set_cons_zero, List.set_cons_succ])
            refine tk 6 24 ?_
            (try simp only [Act.put, List.setIfInBounds_toArray, List.set_cons_zero, List.set_cons_succ])
            refine tk 5 23 ?_
            (try simp only [Act.put, List.setIfInBounds_toArray, List.set_cons_zero, List.set_cons_succ])
            refine tk 7 25 ?_
            (try simp only [Act.put, List.setIfInBounds_toArray, List.set_cons_zero, List.set_cons_succ])
            refine tk 8 26 ?_
            (try simp only [Act.put, List.setIfInBounds_toArray, List.set_cons_zero, List.set_cons_succ])
            refine tk 9 27 ?_
            (try simp only [Act.put, List.setIfInBounds_toArray, List.set_cons_zero, List.set_cons_succ])
            refine tk 10 28 ?_
            (try simp only [Act.put, List.setIfInBounds_toArray, List.set_cons_zero, List.set_cons_succ])
            refine tk 11 29 ?_
            (try simp only [Act.put, List.setIfInBounds_toArray, List.set_cons_zero, List.set_cons_succ])
            refine tk 12 30 ?_
            (try simp only [Act.put, List.setIfInBounds_toArray, List.set_cons_zero, List.set_cons_succ])
            refine tk 13 31 ?_
            (try simp only [Act.put, List.setIfInBounds_toArray, List.set_cons_zero, List.set_cons_succ])
            refine wpAnyH_take (i := 14) (oi := ⟨some 32, _, _, _, _, _⟩) (v := undef) rfl (by kernel_rfl) (by kernel_rfl) (by kernel_rfl) (fun _ _ _ h => h) (Or.inr ⟨by rfl, rfl⟩) (by assumption) ?_
            (try simp only [Act.put, List.setIfInBounds_toArray, List.set_cons_zero, List.set_cons_succ])
            refine wpAnyH_take (i := 16) (oi := ⟨some 34, _, _, _, _, _⟩) (v := undef) rfl (by kernel_rfl) (by kernel_rfl) (by kernel_rfl) (fun _ _ _ h => h) (Or.inr ⟨by rfl, rfl⟩) (by assumption) ?_
            (try simp only [Act.put, List.setIfInBounds_toArray, List.set_cons_zero, List.set_cons_succ])
            refine wpAnyH_take (i := 21) (oi := ⟨some 39, _, _, _, _, _⟩) (v := undef) rfl (by kernel_rfl) (by kernel_rfl) (by kernel_rfl) (fun _ _ _ h => h) (Or.inr ⟨by rfl, rfl⟩) (by assumption) ?_
            (try simp only [Act.put, List.setIfInBounds_toArray, List.set_cons_zero, List.set_cons_succ])
            refine wpAnyH_take (i := 15) (oi := ⟨some 33, _, _, _, _, _⟩) (v := undef) rfl (by kernel_rfl) (by kernel_rfl) (by kernel_rfl) (fun _ _ _ h => h) (Or.inr ⟨by rfl, rfl⟩) (by assumption) ?_
            (try simp only [Act.put, List.setIfInBounds_toArray, List.set_cons_zero, List.set_cons_succ])
            refine wpAnyH_take (i := 17) (oi := ⟨some 35, _, _, _, _, _⟩) (v := undef) rfl (by kernel_rfl) (by kernel_rfl) (by kernel_rfl) (fun _ _ _ h => h) (Or.inr ⟨by rfl, rfl⟩) (by assumption) ?_
            (try simp only [Act.put, List.setIfInBounds_toArray, List.set_cons_zero, List.set_cons_succ])
            refine wpAnyH_take (i := 22) (oi := ⟨some 40, _, _, _, _, _⟩) (v := undef) rfl (by kernel_rfl) (by kernel_rfl) (by kernel_rfl) (fun _ _ _ h => h) (Or.inr ⟨by rfl, rfl⟩) (by assumption) ?_
            (try simp only [Act.put, List.setIfInBounds_toArray, List.set_cons_zero, List.set_cons_succ])
            refine wpAnyH_take (i := 18) (oi := ⟨some 36, _, _, _, _, _⟩) (v := undef) rfl (by kernel_rfl) (by kernel_rfl) (by kernel_rfl) (fun _ _ _ h => h) (Or.inr ⟨by rfl, rfl⟩) (by assumption) ?_
            (try simp only [Act.put, List.setIfInBounds_toArray, List.set_cons_zero, List.set_cons_succ])
            refine wpAnyH_take (i := 19) (oi := ⟨some 37, _, _, _, _, _⟩) (v := undef) rfl (by kernel_rfl) (by kernel_rfl) (by kernel_rfl) (fun _ _ _ h => h) (Or.inr ⟨by rfl, rfl⟩) (by assumption) ?_
            (try simp only [Act.put, List.setIfInBounds_toArray, List.set_cons_zero, List.set_cons_succ])
            refine wpAnyH_take (i := 20) (oi := ⟨some 38, _, _, _, _, _⟩) (v := undef) rfl (by kernel_rfl) (by kernel_rfl) (by kernel_rfl) (fun _ _ _ h => h) (Or.inr ⟨by rfl, rfl⟩) (by assumption) ?_
            (try simp only [Act.put, List.setIfInBounds_toArray, List.set_cons_zero, List.set_cons_succ])
            refine wpAnyH_ready (rs := [23]) (by kernel_rfl) (by simp) ?_
            refine (AllReadyH.cons (o := ⟨some 41, _, _, _, _, _⟩) rfl (fun K hK => ?_) AllReadyH.nil)
            rw [if_neg (by rw [show Region.wanted _ _ = false from rfl]; exact Bool.false_ne_true)]
            refine hK.out _ _ ?_ (fun hHeld => ?_)
            · exact ⟨ldA (cellsR x) [] hA1 (HL.out) (by simp), ldS [] hA1 rfl, ldS [_] hA1 rfl⟩
            clear hK K
            (try simp only [Act.put, List.setIfInBounds_toArray, List.set_cons_zero, List.set_cons_succ])
            refine wpAnyH_take (i := 24) (oi := ⟨some 42, _, _, _, _, _⟩) (v := undef) rfl (by kernel_rfl) (by kernel_rfl) (by kernel_rfl) (fun _ _ _ h => h) (Or.inr ⟨by rfl, rfl⟩) (by assumption) ?_
            (try simp only [Act.put, List.setIfInBounds_toArray, List.set_cons_zero, List.set_cons_succ])
            refine tk 25 43 ?_
            (try simp only [Act.put, List.setIfInBounds_toArray, List.set_cons_zero, List.set_cons_succ])
            refine tk 26 44 ?_
            (try simp only [Act.put, List.setIfInBounds_toArray, List.set_cons_zero, List.set_cons_succ])
            refine wpAnyH_done (by kernel_rfl) ?_ _
            clear hHeld
            go_wp2_with (first | go_big_skip | go_big_guard | fail)
            go_loopw [5] (fun i wr => ∃ m : Nat, m ≤ j ∧ i = .int .i64 (m : Int) ∧ St w [] wr [.blk gx 47 (cellsR x), .blk g1 30 (tabC t (.slice (some ⟨lb, lo, none⟩) nr cr) lv)] ∧ Hid (((xs.take m).map (·.2)).any (fun y => y.id == x.2.id) = false)) (fun i _ => j - (intOf i).toNat)
            case atStart => exact ⟨0, Nat.zero_le _, rfl, hA1, hid rfl⟩
            case round =>
              clear hA1
              obtain ⟨m, hm, rfl, hsm, HM⟩ := hrel
              by_cases hmj : m < j
              · have f1 : decide ((m : Int) < (j : Int)) = true := decide_eq_true (by omega)
                have y1 : IntKind.i64.wrap ((m : Int) + 1) = (m : Int) + 1 := IntWalk.i64_in _ (by omega)
                have hltm : m < nr := by omega
                obtain ⟨z, b', o', hz', he, hinz, hrz⟩ := RecsIn.at HR.out hltm
                cases he
                have HZ := hid hz'
                have HZI := hid (show w.cell? ⟨lb, lo + m * 44, none⟩ = some (.int .i64 z.2.id) from hrz 0 _ rfl)
                clear hz' hinz hrz
                cases c1 : (z.2.id == x.2.id)
                · go_wp2_with (first | go_big_skip | go_big_guard | fail)
                  have hY := hsm.drew
                  clear hsm
                  refine wp_region_held_drew (S := (fun w' => (loadVarH 25 ⟨g1, 1, none⟩).run Try.prog w' = .ok (.slice (some ⟨lb, lo, none⟩) nr cr) w' ∧ (loadVarH 3 ⟨gx, 0, none⟩).run Try.prog w' = .ok (.int .i64 x.2.id) w' ∧ (loadVarH 3 ⟨lb, lo + m * 44, none⟩).run Try.prog w' = .ok (.int .i64 z.2.id) w')) (by kernel_rfl) (by exact ⟨ldS [_] hY rfl, ldS [] hY rfl, ldO hY (HZI.out)⟩) (fun hHeld => ?_)
                  refine tk 0 50 ?_
                  (try simp only [Act.put, List.setIfInBounds_toArray, List.set_cons_zero, List.set_cons_succ])
                  refine tk 2 52 ?_
                  (try simp only [Act.put, List.setIfInBounds_toArray, List.set_cons_zero, List.set_cons_succ])
                  refine tk 6 56 ?_
                  (try simp only [Act.put, List.setIfInBounds_toArray, List.set_cons_zero, List.set_cons_succ])
                  refine tk 1 51 ?_
                  (try simp only [Act.put, List.setIfInBounds_toArray, List.set_cons_zero, List.set_cons_succ])
                  refine tk 7 57 ?_
                  (try simp only [Act.put, List.setIfInBounds_toArray, List.set_cons_zero, List.set_cons_succ])
                  refine tk 3 53 ?_
                  (try simp only [Act.put, List.setIfInBounds_toArray, List.set_cons_zero, List.set_cons_succ])
                  refine tk 4 54 ?_
                  (try simp only [Act.put, List.setIfInBounds_toArray, List.set_cons_zero, List.set_cons_succ])
                  refine tk 5 55 ?_
                  (try simp only [Act.put, List.setIfInBounds_toArray, List.set_cons_zero, List.set_cons_succ])
                  refine tk 8 58 ?_
                  (try simp only [Act.put, List.setIfInBounds_toArray, List.set_cons_zero, List.set_cons_succ])
                  refine wpAnyH_done (by kernel_rfl) ?_ _
                  clear hHeld
                  go_wp2_with (first | go_big_skip | go_big_guard | fail)
                  go_roundw
                  case rel => exact ⟨m + 1, by omega, rfl, hY, hid (by rw [any_step HZ.out, HM.out, c1]; rfl)⟩
                  case measure => simp [intOf]; omega
                · go_wp2_with (first | go_big_skip | go_big_guard | fail)
                  have hY := hsm.drew
                  clear hsm
                  refine wp_region_held_drew (S := (fun w' => (loadVarH 25 ⟨g1, 1, none⟩).run Try.prog w' = .ok (.slice (some ⟨lb, lo, none⟩) nr cr) w' ∧ (loadVarH 3 ⟨gx, 0, none⟩).run Try.prog w' = .ok (.int .i64 x.2.id) w' ∧ (loadVarH 3 ⟨lb, lo + m * 44, none⟩).run Try.prog w' = .ok (.int .i64 z.2.id) w')) (by kernel_rfl) (by exact ⟨ldS [_] hY rfl, ldS [] hY rfl, ldO hY (HZI.out)⟩) (fun hHeld => ?_)
                  refine tk 0 50 ?_
                  (try simp only [Act.put, List.setIfInBounds_toArray, List.set_cons_zero, List.set_cons_succ])
                  refine tk 2 52 ?_
                  (try simp only [Act.put, List.setIfInBounds_toArray, List.set_cons_zero, List.set_cons_succ])
                  refine tk 6 56 ?_
                  (try simp only [Act.put, List.setIfInBounds_toArray, List.set_cons_zero, List.set_cons_succ])
                  refine tk 1 51 ?_
                  (try simp only [Act.put, List.setIfInBounds_toArray, List.set_cons_zero, List.set_cons_succ])
                  refine tk 7 57 ?_
                  (try simp only [Act.put, List.setIfInBounds_toArray, List.set_cons_zero, List.set_cons_succ])
                  refine tk 3 53 ?_
                  (try simp only [Act.put, List.setIfInBounds_toArray, List.set_cons_zero, List.set_cons_succ])
                  refine tk 4 54 ?_
                  (try simp only [Act.put, List.setIfInBounds_toArray, List.set_cons_zero, List.set_cons_succ])
                  refine tk 5 55 ?_
                  (try simp only [Act.put, List.setIfInBounds_toArray, List.set_cons_zero, List.set_cons_succ])
                  refine tk 8 58 ?_
                  (try simp only [Act.put, List.setIfInBounds_toArray, List.set_cons_zero, List.set_cons_succ])
                  refine wpAnyH_done (by kernel_rfl) ?_ _
                  clear hHeld
                  have hv : E = false := by rw [HE.out]; exact allAt_no (map_at HXJ.out) (by unfold bothB eachB relB; rw [List.any_eq_true.2 ⟨z.2, by rw [← List.map_take]; exact List.mem_map_of_mem (List.mem_take_iff_getElem.2 ⟨m, by have := HR.out.len; omega, (List.getElem?_eq_some_iff.1 HZ.out).2⟩), c1⟩]; simp)
                  have HV := hid hv
                  clear hv
                  go_wp2_with (first | go_big_skip | go_big_guard | fail)
                  go_ret
                  exact ⟨by have h := HV.out; subst h; rfl, hY.nil⟩
              · have f1 : decide ((m : Int) < (j : Int)) = false := decide_eq_false (by omega)
                obtain rfl : m = j := by omega
                obtain ⟨c, hc⟩ : ∃ c, c = kinB (xs.map (·.2)) x.2 := ⟨_, rfl⟩
                have HK := hid hc
                have HRE := hid (show relB t.next (xs.map (·.2)) m x.2 = c by unfold relB; rw [← List.map_take, HM.out, HLT.out, hc]; rfl)
                clear hc
                cases c
                · have hv : E = false := by rw [HE.out]; exact allAt_no (map_at HXJ.out) (by unfold bothB; rw [HRE.out, Bool.and_false])
                  have HV := hid hv
                  clear hv
                  go_wp2_with (first | go_big_skip | go_big_guard | (refine wl_loadE rfl rfl rfl ?_; first | refine ⟨_, Loads.atA (tabC t (.slice (some ⟨lb, lo, none⟩) nr cr) lv) [_] hsm rfl rfl, ?_⟩ | refine ⟨_, Loads.atA (cellsR x) [] hsm HL.out (by simp), ?_⟩) | (go_at_call 84; refine (kin_any_r t lv (some ⟨lb, lo, none⟩) nr cr xs _ (HR.out.old hsm) hb x (RC.In.old hsm HIN.out)).mono ?_; rw [← HK.out]; rintro _ w9 ⟨rfl, h4⟩; replace hsm := St.call0 hsm h4; clear h4))
                  go_ret
                  exact ⟨by have h := HV.out; subst h; rfl, hsm.nil⟩
                · go_wp2_with (first | go_big_skip | go_big_guard | (refine wl_loadE rfl rfl rfl ?_; first | refine ⟨_, Loads.atA (tabC t (.slice (some ⟨lb, lo, none⟩) nr cr) lv) [_] hsm rfl rfl, ?_⟩ | refine ⟨_, Loads.atA (cellsR x) [] hsm HL.out (by simp), ?_⟩) | (go_at_call 84; refine (kin_any_r t lv (some ⟨lb, lo, none⟩) nr cr xs _ (HR.out.old hsm) hb x (RC.In.old hsm HIN.out)).mono ?_; rw [← HK.out]; rintro _ w9 ⟨rfl, h4⟩; replace hsm := St.call0 hsm h4; clear h4))
                  go_roundw
                  case rel => exact ⟨m + 1, by omega, rfl, St.drop (L1 := []) hsm, hid (all_steps HP.out HXJ.out (by unfold bothB eachB; rw [HRE.out, ← HQ.out, (show lessAt (xs.map (·.2)) m x.2 = true by rw [HJ.out]; rfl)]; rfl))⟩
                  case measure => simp [intOf]; omega
          · obtain ⟨k, hk⟩ : ∃ k, j = k + 1 := ⟨j - 1, by omega⟩
            obtain ⟨y, b', o', hy', he, hiny, hry⟩ := RecsIn.at HR.out (k := k) (by omega)
            cases he
            have HYK := hid hy'
            have HINY := hid hiny
            have HY := hid (show w.cell? ⟨lb, lo + k * 44 + 1, none⟩ = some (.string ⟨y.2.name.toArray⟩) from hry 1 _ rfl)
            clear hy' hiny hry
            have z2 : IntKind.i64.wrap ((j : Int) - 1) = (k : Int) := by rw [IntWalk.i64_in _ (by omega)]; omega
            have z6 : IntKind.i64.wrap (k : Int) = (k : Int) := IntWalk.i64_in _ (by omega)
            have z7 : decide (0 < j) = true := decide_eq_true (by omega)
            have z4 : decide ((0 : Int) < (j : Int)) = true := decide_eq_true (by omega)
            have z5 : decide ((j : Int) > 0) = true := z4
            have hltk : k < nr := by omega
            obtain ⟨r, hr⟩ : ∃ r, r = lessL y.2.name x.2.name := ⟨_, rfl⟩
            have HLE := hid hr
            have HLA := hid (show lessAt (xs.map (·.2)) j x.2 = lessL y.2.name x.2.name by rw [hk]; exact less_at HYK.out)
            clear hr hk k3
            cases r
            · go_wp2_with (first | go_big_skip | go_big_guard | (refine wl_loadE rfl rfl rfl ?_; first | refine ⟨_, Loads.at [] hst rfl, ?_⟩) | (refine wl_index rfl rfl rfl rfl hlt ?_) | (refine wl_loadE rfl rfl rfl ?_; first | refine ⟨_, Loads.oldA (cs := cellsR x) hst HL.out HWR.out, ?_⟩) | (refine wl_alloc hst rfl rfl ?_; intro gx w2 hst2; clear hst) | (refine wl_storeA [] hst2 rfl rfl rfl rfl (by exact HL.out) (cellsR_ones HIN.out) rfl ?_; intro w3 hst3; clear hst2))
              have hX := hst3.drew
              clear hst3
              refine wp_region_held_drew (S := (fun w' => (loadVarH 47 ⟨gx, 0, none⟩).run Try.prog w' = .ok (.agg (List.toArray (cellsR x))) w' ∧ (loadVarH 3 ⟨gx, 0, none⟩).run Try.prog w' = .ok (.int .i64 x.2.id) w' ∧ (loadVarH 3 ⟨g1, 0, none⟩).run Try.prog w' = .ok (.int .i64 t.next) w' ∧ (loadVarH 25 ⟨g1, 1, none⟩).run Try.prog w' = .ok (.slice (some ⟨lb, lo, none⟩) nr cr) w' ∧ (loadVarH 9 ⟨gx, 1, none⟩).run Try.prog w' = .ok (.string ⟨x.2.name.toArray⟩) w' ∧ (loadVarH 9 ⟨lb, lo + k * 44 + 1, none⟩).run Try.prog w' = .ok (.string ⟨y.2.name.toArray⟩) w')) (by kernel_rfl) (by exact ⟨ldA (cellsR x) [] hX (HL.out) (by simp), ldS [] hX rfl, ldS [_] hX rfl, ldS [_] hX rfl, ldS [] hX rfl, ldO hX (HY.out)⟩) (fun hHeld => ?_)
              refine tk 0 18 ?_
              (try simp only [Act.put, List.setIfInBounds_toArray, List.set_cons_zero, List.set_cons_succ])
              refine wpAnyH_ready (rs := [1]) (by kernel_rfl) (by simp) ?_
              refine (AllReadyH.cons (o := ⟨some 19, _, _, _, _, _⟩) rfl (fun K hK => ?_) AllReadyH.nil)
              rw [if_pos (by rfl)]
              go_simp
              go_at_call 82
              refine (may_any_r x _ (RC.In.old hX HIN.out)).mono ?_
              rw [← HQ.out]
              rintro _ w4 ⟨rfl, h4⟩
              have hA1 := St.call0 hX h4
              clear h4
              refine hK.out _ _ ?_ (fun hHeld => ?_)
              · exact ⟨ldA (cellsR x) [] hA1 (HL.out) (by simp), ldS [] hA1 rfl, ldS [_] hA1 rfl, ldS [_] hA1 rfl, ldS [] hA1 rfl, ldO hA1 (HY.out)⟩
              clear hK K
              (try simp only [Act.put, List.setIfInBounds_toArray, List.set_cons_zero, List.set_cons_succ])
              refine tk 2 20 ?_
              (try simp only [Act.put, List.setIfInBounds_toArray, List.set_cons_zero, List.set_cons_succ])
              refine tk 3 21 ?_
              (try simp only [Act.put, List.setIfInBounds_toArray, List.set_cons_zero, List.set_cons_succ])
              refine tk 4 22 ?_
              (try simp only [Act.put, List.setIfInBounds_toArray, List.set_cons_zero, List.set_cons_succ])
              refine tk 6 24 ?_
              (try simp only [Act.put, List.setIfInBounds_toArray, List.set_cons_zero, List.set_cons_succ])
              refine tk 5 23 ?_
              (try simp only [Act.put, List.setIfInBounds_toArray, List.set_cons_zero, List.set_cons_succ])
              refine tk 7 25 ?_
              (try simp only [Act.put, List.setIfInBounds_toArray, List.set_cons_zero, List.set_cons_succ])
              refine tk 8 26 ?_
              (try simp only [Act.put, List.setIfInBounds_toArray, List.set_cons_zero, List.set_cons_succ])
              refine tk 9 27 ?_
              (try simp only [Act.put, List.setIfInBounds_toArray, List.set_cons_zero, List.set_cons_succ])
              refine tk 10 28 ?_
              (try simp only [Act.put, List.setIfInBounds_toArray, List.set_cons_zero, List.set_cons_succ])
              refine tk 11 29 ?_
              (try simp only [Act.put, List.setIfInBounds_toArray, List.set_cons_zero, List.set_cons_succ])
              refine tk 12 30 ?_
              (try simp only [Act.put, List.setIfInBounds_toArray, List.set_cons_zero, List.set_cons_succ])
              refine tk 13 31 ?_
              (try simp only [Act.put, List.setIfInBounds_toArray, List.set_cons_zero, List.set_cons_succ])
              refine tk 14 32 ?_
              (try simp only [Act.put, List.setIfInBounds_toArray, List.set_cons_zero, List.set_cons_succ])
              refine tk 16 34 ?_
              (try simp only [Act.put, List.setIfInBounds_toArray, List.set_cons_zero, List.set_cons_succ])
              refine tk 21 39 ?_
              (try simp only [Act.put, List.setIfInBounds_toArray, List.set_cons_zero, List.set_cons_succ])
              refine tk 15 33 ?_
              (try simp only [Act.put, List.setIfInBounds_toArray, List.set_cons_zero, List.set_cons_succ])
              refine tk 17 35 ?_
              (try simp only [Act.put, List.setIfInBounds_toArray, List.set_cons_zero, List.set_cons_succ])
              refine tk 22 40 ?_
              (try simp only [Act.put, List.setIfInBounds_toArray, List.set_cons_zero, List.set_cons_succ])
              refine tk 18 36 ?_
              (try simp only [Act.put, List.setIfInBounds_toArray, List.set_cons_zero, List.set_cons_succ])
              refine tk 19 37 ?_
              (try simp only [Act.put, List.setIfInBounds_toArray, List.set_cons_zero, List.set_cons_succ])
              refine tk 20 38 ?_
              (try simp only [Act.put, List.setIfInBounds_toArray, List.set_cons_zero, List.set_cons_succ])
              refine wpAnyH_ready (rs := [23]) (by kernel_rfl) (by simp) ?_
              refine (AllReadyH.cons (o := ⟨some 41, _, _, _, _, _⟩) rfl (fun K hK => ?_) AllReadyH.nil)
              rw [if_pos (by rfl)]
              go_simp
              go_at_call 83
              refine (refLess_any y.2.name x.2.name _ HINY.out.2 HIN.out.2).mono ?_
              rw [← HLE.out]
              rintro _ w5 ⟨rfl, h4⟩
              have hA2 := St.call0 hA1 h4
              clear h4
              refine hK.out _ _ ?_ (fun hHeld => ?_)
              · exact ⟨ldA (cellsR x) [] hA2 (HL.out) (by simp), ldS [] hA2 rfl, ldS [_] hA2 rfl, ldS [_] hA2 rfl, ldS [] hA2 rfl, ldO hA2 (HY.out)⟩
              clear hK K
              (try simp only [Act.put, List.setIfInBounds_toArray, List.set_cons_zero, List.set_cons_succ])
              refine tk 24 42 ?_
              (try simp only [Act.put, List.setIfInBounds_toArray, List.set_cons_zero, List.set_cons_succ])
              refine tk 25 43 ?_
              (try simp only [Act.put, List.setIfInBounds_toArray, List.set_cons_zero, List.set_cons_succ])
              refine tk 26 44 ?_
              (try simp only [Act.put, List.setIfInBounds_toArray, List.set_cons_zero, List.set_cons_succ])
              refine wpAnyH_done (by kernel_rfl) ?_ _
              clear hHeld
              have hv : E = false := by rw [HE.out]; exact allAt_no (map_at HXJ.out) (by unfold bothB eachB relB; rw [HLA.out, ← HLE.out]; simp)
              have HV := hid hv
              clear hv
              go_wp2_with (first | go_big_skip | go_big_guard | fail)
              go_ret
              exact ⟨by have h := HV.out; subst h; rfl, hA2.nil⟩
            · go_wp2_with (first | go_big_skip | go_big_guard | (refine wl_loadE rfl rfl rfl ?_; first | refine ⟨_, Loads.at [] hst rfl, ?_⟩) | (refine wl_index rfl rfl rfl rfl hlt ?_) | (refine wl_loadE rfl rfl rfl ?_; first | refine ⟨_, Loads.oldA (cs := cellsR x) hst HL.out HWR.out, ?_⟩) | (refine wl_alloc hst rfl rfl ?_; intro gx w2 hst2; clear hst) | (refine wl_storeA [] hst2 rfl rfl rfl rfl (by exact HL.out) (cellsR_ones HIN.out) rfl ?_; intro w3 hst3; clear hst2))
              have hX := hst3.drew
              clear hst3
              refine wp_region_held_drew (S := (fun w' => (loadVarH 47 ⟨gx, 0, none⟩).run Try.prog w' = .ok (.agg (List.toArray (cellsR x))) w' ∧ (loadVarH 3 ⟨gx, 0, none⟩).run Try.prog w' = .ok (.int .i64 x.2.id) w' ∧ (loadVarH 3 ⟨g1, 0, none⟩).run Try.prog w' = .ok (.int .i64 t.next) w' ∧ (loadVarH 25 ⟨g1, 1, none⟩).run Try.prog w' = .ok (.slice (some ⟨lb, lo, none⟩) nr cr) w' ∧ (loadVarH 9 ⟨gx, 1, none⟩).run Try.prog w' = .ok (.string ⟨x.2.name.toArray⟩) w' ∧ (loadVarH 9 ⟨lb, lo + k * 44 + 1, none⟩).run Try.prog w' = .ok (.string ⟨y.2.name.toArray⟩) w')) (by kernel_rfl) (by exact ⟨ldA (cellsR x) [] hX (HL.out) (by simp), ldS [] hX rfl, ldS [_] hX rfl, ldS [_] hX rfl, ldS [] hX rfl, ldO hX (HY.out)⟩) (fun hHeld => ?_)
              refine tk 0 18 ?_
              (try simp only [Act.put, List.setIfInBounds_toArray, List.set_cons_zero, List.set_cons_succ])
              refine wpAnyH_ready (rs := [1]) (by kernel_rfl) (by simp) ?_
              refine (AllReadyH.cons (o := ⟨some 19, _, _, _, _, _⟩) rfl (fun K hK => ?_) AllReadyH.nil)
              rw [if_pos (by rfl)]
              go_simp
              go_at_call 82
              refine (may_any_r x _ (RC.In.old hX HIN.out)).mono ?_
              rw [← HQ.out]
              rintro _ w4 ⟨rfl, h4⟩
              have hA1 := St.call0 hX h4
              clear h4
              refine hK.out _ _ ?_ (fun hHeld => ?_)
              · exact ⟨ldA (cellsR x) [] hA1 (HL.out) (by simp), ldS [] hA1 rfl, ldS [_] hA1 rfl, ldS [_] hA1 rfl, ldS [] hA1 rfl, ldO hA1 (HY.out)⟩
              clear hK K
              (try simp only [Act.put, List.setIfInBounds_toArray, List.set_cons_zero, List.set_cons_succ])
              refine tk 2 20 ?_
              (try simp only [Act.put, List.setIfInBounds_toArray, List.set_cons_zero, List.set_cons_succ])
              refine tk 3 21 ?_
              (try simp only [Act.put, List.setIfInBounds_toArray, List.set_cons_zero, List.set_cons_succ])
              refine tk 4 22 ?_
              (try simp only [Act.put, List.setIfInBounds_toArray, List.set_cons_zero, List.set_cons_succ])
              refine tk 6 24 ?_
              (try simp only [Act.put, List.setIfInBounds_toArray, List.set_cons_zero, List.set_cons_succ])
              refine tk 5 23 ?_
              (try simp only [Act.put, List.setIfInBounds_toArray, List.set_cons_zero, List.set_cons_succ])
              refine tk 7 25 ?_
              (try simp only [Act.put, List.setIfInBounds_toArray, List.set_cons_zero, List.set_cons_succ])
              refine tk 8 26 ?_
              (try simp only [Act.put, List.setIfInBounds_toArray, List.set_cons_zero, List.set_cons_succ])
              refine tk 9 27 ?_
              (try simp only [Act.put, List.setIfInBounds_toArray, List.set_cons_zero, List.set_cons_succ])
              refine tk 10 28 ?_
              (try simp only [Act.put, List.setIfInBounds_toArray, List.set_cons_zero, List.set_cons_succ])
              refine tk 11 29 ?_
              (try simp only [Act.put, List.setIfInBounds_toArray, List.set_cons_zero, List.set_cons_succ])
              refine tk 12 30 ?_
              (try simp only [Act.put, List.setIfInBounds_toArray, List.set_cons_zero, List.set_cons_succ])
              refine tk 13 31 ?_
              (try simp only [Act.put, List.setIfInBounds_toArray, List.set_cons_zero, List.set_cons_succ])
              refine tk 14 32 ?_
              (try simp only [Act.put, List.setIfInBounds_toArray, List.set_cons_zero, List.set_cons_succ])
              refine tk 16 34 ?_
              (try simp only [Act.put, List.setIfInBounds_toArray, List.set_cons_zero, List.set_cons_succ])
              refine tk 21 39 ?_
              (try simp only [Act.put, List.setIfInBounds_toArray, List.set_cons_zero, List.set_cons_succ])
              refine tk 15 33 ?_
              (try simp only [Act.put, List.setIfInBounds_toArray, List.set_cons_zero, List.set_cons_succ])
              refine tk 17 35 ?_
              (try simp only [Act.put, List.setIfInBounds_toArray, List.set_cons_zero, List.set_cons_succ])
              refine tk 22 40 ?_
              (try simp only [Act.put, List.setIfInBounds_toArray, List.set_cons_zero, List.set_cons_succ])
              refine tk 18 36 ?_
              (try simp only [Act.put, List.setIfInBounds_toArray, List.set_cons_zero, List.set_cons_succ])
              refine tk 19 37 ?_
              (try simp only [Act.put, List.setIfInBounds_toArray, List.set_cons_zero, List.set_cons_succ])
              refine tk 20 38 ?_
              (try simp only [Act.put, List.setIfInBounds_toArray, List.set_cons_zero, List.set_cons_succ])
              refine wpAnyH_ready (rs := [23]) (by kernel_rfl) (by simp) ?_
              refine (AllReadyH.cons (o := ⟨some 41, _, _, _, _, _⟩) rfl (fun K hK => ?_) AllReadyH.nil)
              rw [if_pos (by rfl)]
              go_simp
              go_at_call 83
              refine (refLess_any y.2.name x.2.name _ HINY.out.2 HIN.out.2).mono ?_
              rw [← HLE.out]
              rintro _ w5 ⟨rfl, h4⟩
              have hA2 := St.call0 hA1 h4
              clear h4
              refine hK.out _ _ ?_ (fun hHeld => ?_)
              · exact ⟨ldA (cellsR x) [] hA2 (HL.out) (by simp), ldS [] hA2 rfl, ldS [_] hA2 rfl, ldS [_] hA2 rfl, ldS [] hA2 rfl, ldO hA2 (HY.out)⟩
              clear hK K
              (try simp only [Act.put, List.setIfInBounds_toArray, List.set_cons_zero, List.set_cons_succ])
              refine tk 24 42 ?_
              (try simp only [Act.put, List.setIfInBounds_toArray, List.set_cons_zero, List.set_cons_succ])
              refine tk 25 43 ?_
              (try simp only [Act.put, List.setIfInBounds_toArray, List.set_cons_zero, List.set_cons_succ])
              refine tk 26 44 ?_
              (try simp only [Act.put, List.setIfInBounds_toArray, List.set_cons_zero, List.set_cons_succ])
              refine wpAnyH_done (by kernel_rfl) ?_ _
              clear hHeld
              go_wp2_with (first | go_big_skip | go_big_guard | fail)
              go_loopw [5] (fun i wr => ∃ m : Nat, m ≤ j ∧ i = .int .i64 (m : Int) ∧ St w [] wr [.blk gx 47 (cellsR x), .blk g1 30 (tabC t (.slice (some ⟨lb, lo, none⟩) nr cr) lv)] ∧ Hid (((xs.take m).map (·.2)).any (fun y => y.id == x.2.id) = false)) (fun i _ => j - (intOf i).toNat)
              case atStart => exact ⟨0, Nat.zero_le _, rfl, hA2, hid rfl⟩
              case round =>
                clear hA2
                obtain ⟨m, hm, rfl, hsm, HM⟩ := hrel
                by_cases hmj : m < j
                · have f1 : decide ((m : Int) < (j : Int)) = true := decide_eq_true (by omega)
                  have y1 : IntKind.i64.wrap ((m : Int) + 1) = (m : Int) + 1 := IntWalk.i64_in _ (by omega)
                  have hltm : m < nr := by omega
                  obtain ⟨z, b', o', hz', he, hinz, hrz⟩ := RecsIn.at HR.out hltm
                  cases he
                  have HZ := hid hz'
                  have HZI := hid (show w.cell? ⟨lb, lo + m * 44, none⟩ = some (.int .i64 z.2.id) from hrz 0 _ rfl)
                  clear hz' hinz hrz
                  cases c1 : (z.2.id == x.2.id)
                  · go_wp2_with (first | go_big_skip | go_big_guard | fail)
                    have hY := hsm.drew
                    clear hsm
                    refine wp_region_held_drew (S := (fun w' => (loadVarH 25 ⟨g1, 1, none⟩).run Try.prog w' = .ok (.slice (some ⟨lb, lo, none⟩) nr cr) w' ∧ (loadVarH 3 ⟨gx, 0, none⟩).run Try.prog w' = .ok (.int .i64 x.2.id) w' ∧ (loadVarH 3 ⟨lb, lo + m * 44, none⟩).run Try.prog w' = .ok (.int .i64 z.2.id) w')) (by kernel_rfl) (by exact ⟨ldS [_] hY rfl, ldS [] hY rfl, ldO hY (HZI.out)⟩) (fun hHeld => ?_)
                    refine tk 0 50 ?_
                    (try simp only [Act.put, List.setIfInBounds_toArray, List.set_cons_zero, List.set_cons_succ])
                    refine tk 2 52 ?_
                    (try simp only [Act.put, List.setIfInBounds_toArray, List.set_cons_zero, List.set_cons_succ])
                    refine tk 6 56 ?_
                    (try simp only [Act.put, List.setIfInBounds_toArray, List.set_cons_zero, List.set_cons_succ])
                    refine tk 1 51 ?_
                    (try simp only [Act.put, List.setIfInBounds_toArray, List.set_cons_zero, List.set_cons_succ])
                    refine tk 7 57 ?_
                    (try simp only [Act.put, List.setIfInBounds_toArray, List.set_cons_zero, List.set_cons_succ])
                    refine tk 3 53 ?_
                    (try simp only [Act.put, List.setIfInBounds_toArray, List.set_cons_zero, List.set_cons_succ])
                    refine tk 4 54 ?_
                    (try simp only [Act.put, List.setIfInBounds_toArray, List.set_cons_zero, List.set_cons_succ])
                    refine tk 5 55 ?_
                    (try simp only [Act.put, List.setIfInBounds_toArray, List.set_cons_zero, List.set_cons_succ])
                    refine tk 8 58 ?_
                    (try simp only [Act.put, List.setIfInBounds_toArray, List.set_cons_zero, List.set_cons_succ])
                    refine wpAnyH_done (by kernel_rfl) ?_ _
                    clear hHeld
                    go_wp2_with (first | go_big_skip | go_big_guard | fail)
                    go_roundw
                    case rel => exact ⟨m + 1, by omega, rfl, hY, hid (by rw [any_step HZ.out, HM.out, c1]; rfl)⟩
                    case measure => simp [intOf]; omega
                  · go_wp2_with (first | go_big_skip | go_big_guard | fail)
                    have hY := hsm.drew
                    clear hsm
                    refine wp_region_held_drew (S := (fun w' => (loadVarH 25 ⟨g1, 1, none⟩).run Try.prog w' = .ok (.slice (some ⟨lb, lo, none⟩) nr cr) w' ∧ (loadVarH 3 ⟨gx, 0, none⟩).run Try.prog w' = .ok (.int .i64 x.2.id) w' ∧ (loadVarH 3 ⟨lb, lo + m * 44, none⟩).run Try.prog w' = .ok (.int .i64 z.2.id) w')) (by kernel_rfl) (by exact ⟨ldS [_] hY rfl, ldS [] hY rfl, ldO hY (HZI.out)⟩) (fun hHeld => ?_)
                    refine tk 0 50 ?_
                    (try simp only [Act.put, List.setIfInBounds_toArray, List.set_cons_zero, List.set_cons_succ])
                    refine tk 2 52 ?_
                    (try simp only [Act.put, List.setIfInBounds_toArray, List.set_cons_zero, List.set_cons_succ])
                    refine tk 6 56 ?_
                    (try simp only [Act.put, List.setIfInBounds_toArray, List.set_cons_zero, List.set_cons_succ])
                    refine tk 1 51 ?_
                    (try simp only [Act.put, List.setIfInBounds_toArray, List.set_cons_zero, List.set_cons_succ])
                    refine tk 7 57 ?_
                    (try simp only [Act.put, List.setIfInBounds_toArray, List.set_cons_zero, List.set_cons_succ])
                    refine tk 3 53 ?_
                    (try simp only [Act.put, List.setIfInBounds_toArray, List.set_cons_zero, List.set_cons_succ])
                    refine tk 4 54 ?_
                    (try simp only [Act.put, List.setIfInBounds_toArray, List.set_cons_zero, List.set_cons_succ])
                    refine tk 5 55 ?_
                    (try simp only [Act.put, List.setIfInBounds_toArray, List.set_cons_zero, List.set_cons_succ])
                    refine tk 8 58 ?_
                    (try simp only [Act.put, List.setIfInBounds_toArray, List.set_cons_zero, List.set_cons_succ])
                    refine wpAnyH_done (by kernel_rfl) ?_ _
                    clear hHeld
                    have hv : E = false := by rw [HE.out]; exact allAt_no (map_at HXJ.out) (by unfold bothB eachB relB; rw [List.any_eq_true.2 ⟨z.2, by rw [← List.map_take]; exact List.mem_map_of_mem (List.mem_take_iff_getElem.2 ⟨m, by have := HR.out.len; omega, (List.getElem?_eq_some_iff.1 HZ.out).2⟩), c1⟩]; simp)
                    have HV := hid hv
                    clear hv
                    go_wp2_with (first | go_big_skip | go_big_guard | fail)
                    go_ret
                    exact ⟨by have h := HV.out; subst h; rfl, hY.nil⟩
                · have f1 : decide ((m : Int) < (j : Int)) = false := decide_eq_false (by omega)
                  obtain rfl : m = j := by omega
                  obtain ⟨c, hc⟩ : ∃ c, c = kinB (xs.map (·.2)) x.2 := ⟨_, rfl⟩
                  have HK := hid hc
                  have HRE := hid (show relB t.next (xs.map (·.2)) m x.2 = c by unfold relB; rw [← List.map_take, HM.out, HLT.out, hc]; rfl)
                  clear hc
                  cases c
                  · have hv : E = false := by rw [HE.out]; exact allAt_no (map_at HXJ.out) (by unfold bothB; rw [HRE.out, Bool.and_false])
                    have HV := hid hv
                    clear hv
                    go_wp2_with (first | go_big_skip | go_big_guard | (refine wl_loadE rfl rfl rfl ?_; first | refine ⟨_, Loads.atA (tabC t (.slice (some ⟨lb, lo, none⟩) nr cr) lv) [_] hsm rfl rfl, ?_⟩ | refine ⟨_, Loads.atA (cellsR x) [] hsm HL.out (by simp), ?_⟩) | (go_at_call 84; refine (kin_any_r t lv (some ⟨lb, lo, none⟩) nr cr xs _ (HR.out.old hsm) hb x (RC.In.old hsm HIN.out)).mono ?_; rw [← HK.out]; rintro _ w9 ⟨rfl, h4⟩; replace hsm := St.call0 hsm h4; clear h4))
                    go_ret
                    exact ⟨by have h := HV.out; subst h; rfl, hsm.nil⟩
                  · go_wp2_with (first | go_big_skip | go_big_guard | (refine wl_loadE rfl rfl rfl ?_; first | refine ⟨_, Loads.atA (tabC t (.slice (some ⟨lb, lo, none⟩) nr cr) lv) [_] hsm rfl rfl, ?_⟩ | refine ⟨_, Loads.atA (cellsR x) [] hsm HL.out (by simp), ?_⟩) | (go_at_call 84; refine (kin_any_r t lv (some ⟨lb, lo, none⟩) nr cr xs _ (HR.out.old hsm) hb x (RC.In.old hsm HIN.out)).mono ?_; rw [← HK.out]; rintro _ w9 ⟨rfl, h4⟩; replace hsm := St.call0 hsm h4; clear h4))
                    go_roundw
                    case rel => exact ⟨m + 1, by omega, rfl, St.drop (L1 := []) hsm, hid (all_steps HP.out HXJ.out (by unfold bothB eachB; rw [HRE.out, ← HQ.out, HLA.out, ← HLE.out]; rfl))⟩
                    case measure => simp [intOf]; omega
        · have d3 : decide (x.2.id ≥ t.next) = true := decide_eq_true (by omega)
          have d4 : decide (t.next ≤ x.2.id) = true := d3
          have HNL := hid (decide_eq_false k2)
          clear k2
          go_wp2_with (first | go_big_skip | go_big_guard | (refine wl_loadE rfl rfl rfl ?_; first | refine ⟨_, Loads.at [] hst rfl, ?_⟩) | (refine wl_index rfl rfl rfl rfl hlt ?_) | (refine wl_loadE rfl rfl rfl ?_; first | refine ⟨_, Loads.oldA (cs := cellsR x) hst HL.out HWR.out, ?_⟩) | (refine wl_alloc hst rfl rfl ?_; intro gx w2 hst2; clear hst) | (refine wl_storeA [] hst2 rfl rfl rfl rfl (by exact HL.out) (cellsR_ones HIN.out) rfl ?_; intro w3 hst3; clear hst2))
          have hX := hst3.drew
          clear hst3
          refine wp_region_held_drew (S := (fun w' => (loadVarH 47 ⟨gx, 0, none⟩).run Try.prog w' = .ok (.agg (List.toArray (cellsR x))) w' ∧ (loadVarH 3 ⟨gx, 0, none⟩).run Try.prog w' = .ok (.int .i64 x.2.id) w' ∧ (loadVarH 3 ⟨g1, 0, none⟩).run Try.prog w' = .ok (.int .i64 t.next) w')) (by kernel_rfl) (by exact ⟨ldA (cellsR x) [] hX (HL.out) (by simp), ldS [] hX rfl, ldS [_] hX rfl⟩) (fun hHeld => ?_)
          refine tk 0 18 ?_
          (try simp only [Act.put, List.setIfInBounds_toArray, List.set_cons_zero, List.set_cons_succ])
          refine wpAnyH_ready (rs := [1]) (by kernel_rfl) (by simp) ?_
          refine (AllReadyH.cons (o := ⟨some 19, _, _, _, _, _⟩) rfl (fun K hK => ?_) AllReadyH.nil)
          rw [if_pos (by rfl)]
          go_simp
          go_at_call 82
          refine (may_any_r x _ (RC.In.old hX HIN.out)).mono ?_
          rw [← HQ.out]
          rintro _ w4 ⟨rfl, h4⟩
          have hA1 := St.call0 hX h4
          clear h4
          refine hK.out _ _ ?_ (fun hHeld => ?_)
          · exact ⟨ldA (cellsR x) [] hA1 (HL.out) (by simp), ldS [] hA1 rfl, ldS [_] hA1 rfl⟩
          clear hK K
          (try simp only [Act.put, List.setIfInBounds_toArray, List.set_cons_zero, List.set_cons_succ])
          refine tk 2 20 ?_
          (try simp only [Act.put, List.setIfInBounds_toArray, List.set_cons_zero, List.set_cons_succ])
          refine tk 3 21 ?_
          (try simp only [Act.put, List.setIfInBounds_toArray, List.set_cons_zero, List.set_cons_succ])
          refine tk 4 22 ?_
          (try simp only [Act.put, List.setIfInBounds_toArray, List.set_cons_zero, List.set_cons_succ])
          refine tk 6 24 ?_
          (try simp only [Act.put, List.setIfInBounds_toArray, List.set_cons_zero, List.set_cons_succ])
          refine tk 5 23 ?_
          (try simp only [Act.put, List.setIfInBounds_toArray, List.set_cons_zero, List.set_cons_succ])
          refine tk 7 25 ?_
          (try simp only [Act.put, List.setIfInBounds_toArray, List.set_cons_zero, List.set_cons_succ])
          refine tk 8 26 ?_
          (try simp only [Act.put, List.setIfInBounds_toArray, List.set_cons_zero, List.set_cons_succ])
          refine tk 9 27 ?_
          (try simp only [Act.put, List.setIfInBounds_toArray, List.set_cons_zero, List.set_cons_succ])
          refine tk 10 28 ?_
          (try simp only [Act.put, List.setIfInBounds_toArray, List.set_cons_zero, List.set_cons_succ])
          refine wpAnyH_take (i := 11) (oi := ⟨some 29, _, _, _, _, _⟩) (v := undef) rfl (by kernel_rfl) (by kernel_rfl) (by kernel_rfl) (fun _ _ _ h => h) (Or.inr ⟨by rfl, rfl⟩) (by assumption) ?_
          (try simp only [Act.put, List.setIfInBounds_toArray, List.set_cons_zero, List.set_cons_succ])
          refine wpAnyH_take (i := 12) (oi := ⟨some 30, _, _, _, _, _⟩) (v := undef) rfl (by kernel_rfl) (by kernel_rfl) (by kernel_rfl) (fun _ _ _ h => h) (Or.inr ⟨by rfl, rfl⟩) (by assumption) ?_
          (try simp only [Act.put, List.setIfInBounds_toArray, List.set_cons_zero, List.set_cons_succ])
          refine wpAnyH_take (i := 13) (oi := ⟨some 31, _, _, _, _, _⟩) (v := undef) rfl (by kernel_rfl) (by kernel_rfl) (by kernel_rfl) (fun _ _ _ h => h) (Or.inr ⟨by rfl, rfl⟩) (by assumption) ?_
          (try simp only [Act.put, List.setIfInBounds_toArray, List.set_cons_zero, List.set_cons_succ])
          refine wpAnyH_take (i := 14) (oi := ⟨some 32, _, _, _, _, _⟩) (v := undef) rfl (by kernel_rfl) (by kernel_rfl) (by kernel_rfl) (fun _ _ _ h => h) (Or.inr ⟨by rfl, rfl⟩) (by assumption) ?_
          (try simp only [Act.put, List.setIfInBounds_toArray, List.set_cons_zero, List.set_cons_succ])
          refine wpAnyH_take (i := 16) (oi := ⟨some 34, _, _, _, _, _⟩) (v := undef) rfl (by kernel_rfl) (by kernel_rfl) (by kernel_rfl) (fun _ _ _ h => h) (Or.inr ⟨by rfl, rfl⟩) (by assumption) ?_
          (try simp only [Act.put, List.setIfInBounds_toArray, List.set_cons_zero, List.set_cons_succ])
          refine wpAnyH_take (i := 21) (oi := ⟨some 39, _, _, _, _, _⟩) (v := undef) rfl (by kernel_rfl) (by kernel_rfl) (by kernel_rfl) (fun _ _ _ h => h) (Or.inr ⟨by rfl, rfl⟩) (by assumption) ?_
          (try simp only [Act.put, List.setIfInBounds_toArray, List.set_cons_zero, List.set_cons_succ])
          refine wpAnyH_take (i := 15) (oi := ⟨some 33, _, _, _, _, _⟩) (v := undef) rfl (by kernel_rfl) (by kernel_rfl) (by kernel_rfl) (fun _ _ _ h => h) (Or.inr ⟨by rfl, rfl⟩) (by assumption) ?_
          (try simp only [Act.put, List.setIfInBounds_toArray, List.set_cons_zero, List.set_cons_succ])
          refine wpAnyH_take (i := 17) (oi := ⟨some 35, _, _, _, _, _⟩) (v := undef) rfl (by kernel_rfl) (by kernel_rfl) (by kernel_rfl) (fun _ _ _ h => h) (Or.inr ⟨by rfl, rfl⟩) (by assumption) ?_
          (try simp only [Act.put, List.setIfInBounds_toArray, List.set_cons_zero, List.set_cons_succ])
          refine wpAnyH_take (i := 22) (oi := ⟨some 40, _, _, _, _, _⟩) (v := undef) rfl (by kernel_rfl) (by kernel_rfl) (by kernel_rfl) (fun _ _ _ h => h) (Or.inr ⟨by rfl, rfl⟩) (by assumption) ?_
          (try simp only [Act.put, List.setIfInBounds_toArray, List.set_cons_zero, List.set_cons_succ])
          refine wpAnyH_take (i := 18) (oi := ⟨some 36, _, _, _, _, _⟩) (v := undef) rfl (by kernel_rfl) (by kernel_rfl) (by kernel_rfl) (fun _ _ _ h => h) (Or.inr ⟨by rfl, rfl⟩) (by assumption) ?_
          (try simp only [Act.put, List.setIfInBounds_toArray, List.set_cons_zero, List.set_cons_succ])
          refine wpAnyH_take (i := 19) (oi := ⟨some 37, _, _, _, _, _⟩) (v := undef) rfl (by kernel_rfl) (by kernel_rfl) (by kernel_rfl) (fun _ _ _ h => h) (Or.inr ⟨by rfl, rfl⟩) (by assumption) ?_
          (try simp only [Act.put, List.setIfInBounds_toArray, List.set_cons_zero, List.set_cons_succ])
          refine wpAnyH_take (i := 20) (oi := ⟨some 38, _, _, _, _, _⟩) (v := undef) rfl (by kernel_rfl) (by kernel_rfl) (by kernel_rfl) (fun _ _ _ h => h) (Or.inr ⟨by rfl, rfl⟩) (by assumption) ?_
          (try simp only [Act.put, List.setIfInBounds_toArray, List.set_cons_zero, List.set_cons_succ])
          refine wpAnyH_ready (rs := [23]) (by kernel_rfl) (by simp) ?_
          refine (AllReadyH.cons (o := ⟨some 41, _, _, _, _, _⟩) rfl (fun K hK => ?_) AllReadyH.nil)
          rw [if_neg (by rw [show Region.wanted _ _ = false from rfl]; exact Bool.false_ne_true)]
          refine hK.out _ _ ?_ (fun hHeld => ?_)
          · exact ⟨ldA (cellsR x) [] hA1 (HL.out) (by simp), ldS [] hA1 rfl, ldS [_] hA1 rfl⟩
          clear hK K
          (try simp only [Act.put, List.setIfInBounds_toArray, List.set_cons_zero, List.set_cons_succ])
          refine wpAnyH_take (i := 24) (oi := ⟨some 42, _, _, _, _, _⟩) (v := undef) rfl (by kernel_rfl) (by kernel_rfl) (by kernel_rfl) (fun _ _ _ h => h) (Or.inr ⟨by rfl, rfl⟩) (by assumption) ?_
          (try simp only [Act.put, List.setIfInBounds_toArray, List.set_cons_zero, List.set_cons_succ])
          refine wpAnyH_take (i := 25) (oi := ⟨some 43, _, _, _, _, _⟩) (v := undef) rfl (by kernel_rfl) (by kernel_rfl) (by kernel_rfl) (fun _ _ _ h => h) (Or.inr ⟨by rfl, rfl⟩) (by assumption) ?_
          (try simp only [Act.put, List.setIfInBounds_toArray, List.set_cons_zero, List.set_cons_succ])
          refine tk 26 44 ?_
          (try simp only [Act.put, List.setIfInBounds_toArray, List.set_cons_zero, List.set_cons_succ])
          refine wpAnyH_done (by kernel_rfl) ?_ _
          clear hHeld
          have hv : E = false := by rw [HE.out]; exact allAt_no (map_at HXJ.out) (by unfold bothB eachB relB; rw [HNL.out]; simp)
          have HV := hid hv
          clear hv
          go_wp2_with (first | go_big_skip | go_big_guard | fail)
          go_ret
          exact ⟨by have h := HV.out; subst h; rfl, hA1.nil⟩
    · have e1 : decide ((j : Int) < (nr : Int)) = false := decide_eq_false (by omega)
      have hv : E = true := by rw [HE.out]; exact all_end (fun i y hi hy => HP.out i y (by have := HR.out.len; omega) hy)
      have HV := hid hv
      clear hv
      go_wp2_with (first | go_big_skip | go_big_guard | (refine wl_loadE rfl rfl rfl ?_; first | refine ⟨_, Loads.at [] hst rfl, ?_⟩))
      go_ret
      exact ⟨by have h := HV.out; subst h; rfl, hst.nil⟩
end Go.Proofs.Ytkpkaoiafppimaa
namespace Go.Proofs.Ytkpkaoiafppimaa
set_option linter.unusedVariables false
set_option linter.unusedSimpArgs false
open Go.RowKit Hp
attribute [local irreducible] Go.Calls
set_option maxRecDepth 100000
set_option maxHeartbeats 4000000
theorem lives_no {l : List Int} {j : Nat} {x : Int} (h : l[j]? = some x) (hx : inB x 0 2147483647 = false) : (l.all fun n => inB n 0 2147483647) = false := by
  rw [List.all_eq_false]
  exact ⟨x, List.mem_of_getElem? h, by rw [hx]; simp⟩
theorem lives_all {l : List Int} (h : ∀ (i : Nat) (x : Int), l[i]? = some x → inB x 0 2147483647 = true) : (l.all fun n => inB n 0 2147483647) = true := by
  rw [List.all_eq_true]
  intro x hx
  obtain ⟨i, hi⟩ := List.getElem?_of_mem hx
  exact h i x hi
theorem refCheck12_any (t : TC) (ar al : Option Addr) (nr cr nl cl : Nat) (xs : List (Value × RC)) (w : World) (hR : RecsIn w (.slice ar nr cr) nr xs) (hx : xs.map (·.2) = t.recs) (hb : nr ≤ 1000000) (hl : Rd w (.slice al nl cl) 1 nl (numsV t.lives)) (hnl : t.lives.length = nl) (hbl : nl ≤ 1000000) :
    Calls Try.prog 27 #[.agg (tabC t (.slice ar nr cr) (.slice al nl cl)).toArray] w fun e w' => e = .returned (.int .i64 t.err) ∧ St w [] w' [] := by
  have hst0 := St.refl w
  have HR := hid hR
  have HX := hid hx
  have HLV := hid hl
  have HNL := hid hnl
  have hlen : t.recs.length = nr := by rw [← hx, List.length_map, hR.len]
  have HLN := hid hlen
  obtain ⟨E, hE⟩ : ∃ E, E = t.err := ⟨_, rfl⟩
  rw [← hE]
  have HE := hid hE
  have hsz : t.sizeB = ((inB t.next 1 2147483648 && decide ((nr : Int) ≤ 16)) && inB (nl : Int) 2 8) := by unfold TC.sizeB; rw [hlen, hnl]
  have HSZ := hid hsz
  have hrec : allAt (bothB t.next (xs.map (·.2))) (xs.map (·.2)) = (allAt (eachB t.recs) t.recs && allAt (relB t.next t.recs) t.recs) := by rw [both_all, hx]
  clear hR hx hl hnl hlen hE hsz
  obtain ⟨R, hRR⟩ : ∃ R, R = allAt (bothB t.next (xs.map (·.2))) (xs.map (·.2)) := ⟨_, rfl⟩
  have HRR := hid hRR
  rw [← hRR] at hrec
  have HREC := hid hrec
  clear hRR hrec
  cases d1 : inB t.next 1 2147483648
  · skip
    have hv : E = 2 := by rw [HE.out]; exact err_no (ok_size (by rw [HSZ.out, d1]; rfl))
    rw [hv]
    clear hv
    go_enter Try.func27, Try.ntmps27
    go_wp2_with (first | go_big_skip | go_big_guard | (refine wl_boxA hst0 rfl rfl rfl ?_; intro g1 w1 hst; clear hst0) | (refine wl_loadE rfl rfl rfl ?_; first | refine ⟨_, Loads.at [] hst rfl, ?_⟩ | refine ⟨_, Loads.atA (tabC t (.slice ar nr cr) (.slice al nl cl)) [] hst rfl rfl, ?_⟩ | refine ⟨_, Loads.atA [.int .i64 t.kind, .int .i64 t.dev, .int .i64 t.at_, .int .i64 t.txg] [] hst rfl rfl, ?_⟩) | (go_at_call 55; refine (refWithin_any _ _ _ _).mono ?_; rintro _ w9 ⟨rfl, h4⟩; replace hst := St.call0 hst h4; clear h4))
    go_ret
    exact ⟨rfl, hst.nil⟩
  · by_cases k2 : (16 : Int) < (nr : Int)
    · have d2 : decide ((16 : Int) < (nr : Int)) = true := decide_eq_true k2
      have d2' : decide ((nr : Int) > 16) = true := d2
      have hv : E = 2 := by rw [HE.out]; exact err_no (ok_size (by rw [HSZ.out, d1, decide_eq_false (by omega)]; rfl))
      rw [hv]
      clear hv
      go_enter Try.func27, Try.ntmps27
      go_wp2_with (first | go_big_skip | go_big_guard | (refine wl_boxA hst0 rfl rfl rfl ?_; intro g1 w1 hst; clear hst0) | (refine wl_loadE rfl rfl rfl ?_; first | refine ⟨_, Loads.at [] hst rfl, ?_⟩ | refine ⟨_, Loads.atA (tabC t (.slice ar nr cr) (.slice al nl cl)) [] hst rfl rfl, ?_⟩ | refine ⟨_, Loads.atA [.int .i64 t.kind, .int .i64 t.dev, .int .i64 t.at_, .int .i64 t.txg] [] hst rfl rfl, ?_⟩) | (go_at_call 55; refine (refWithin_any _ _ _ _).mono ?_; rintro _ w9 ⟨rfl, h4⟩; replace hst := St.call0 hst h4; clear h4))
      go_ret
      exact ⟨rfl, hst.nil⟩
    · have d2 : decide ((16 : Int) < (nr : Int)) = false := decide_eq_false k2
      have d2' : decide ((nr : Int) > 16) = false := d2
      have d3 : decide ((nr : Int) ≤ 16) = true := decide_eq_true (by omega)
      cases d4 : inB (nl : Int) 2 8
      · skip
        have hv : E = 2 := by rw [HE.out]; exact err_no (ok_size (by rw [HSZ.out, d1, d3, d4]; rfl))
        rw [hv]
        clear hv
        go_enter Try.func27, Try.ntmps27
        go_wp2_with (first | go_big_skip | go_big_guard | (refine wl_boxA hst0 rfl rfl rfl ?_; intro g1 w1 hst; clear hst0) | (refine wl_loadE rfl rfl rfl ?_; first | refine ⟨_, Loads.at [] hst rfl, ?_⟩ | refine ⟨_, Loads.atA (tabC t (.slice ar nr cr) (.slice al nl cl)) [] hst rfl rfl, ?_⟩ | refine ⟨_, Loads.atA [.int .i64 t.kind, .int .i64 t.dev, .int .i64 t.at_, .int .i64 t.txg] [] hst rfl rfl, ?_⟩) | (go_at_call 55; refine (refWithin_any _ _ _ _).mono ?_; rintro _ w9 ⟨rfl, h4⟩; replace hst := St.call0 hst h4; clear h4))
        go_ret
        exact ⟨rfl, hst.nil⟩
      · have HSZ1 : Hid (t.sizeB = true) := hid (by rw [HSZ.out, d1, d3, d4]; rfl)
        go_enter Try.func27, Try.ntmps27
        go_wp2_with (first | go_big_skip | go_big_guard | (refine wl_boxA hst0 rfl rfl rfl ?_; intro g1 w1 hst; clear hst0) | (refine wl_loadE rfl rfl rfl ?_; first | refine ⟨_, Loads.at [] hst rfl, ?_⟩ | refine ⟨_, Loads.atA (tabC t (.slice ar nr cr) (.slice al nl cl)) [] hst rfl rfl, ?_⟩ | refine ⟨_, Loads.atA [.int .i64 t.kind, .int .i64 t.dev, .int .i64 t.at_, .int .i64 t.txg] [] hst rfl rfl, ?_⟩) | (go_at_call 55; refine (refWithin_any _ _ _ _).mono ?_; rintro _ w9 ⟨rfl, h4⟩; replace hst := St.call0 hst h4; clear h4))
        go_loopw [3] (fun i wr => ∃ j : Nat, j ≤ nl ∧ i = .int .i64 (j : Int) ∧ St w [] wr [.blk g1 30 (tabC t (.slice ar nr cr) (.slice al nl cl))] ∧ Hid (∀ i x, i < j → t.lives[i]? = some x → inB x 0 2147483647 = true)) (fun i _ => nl - (intOf i).toNat)
        case atStart => exact ⟨0, Nat.zero_le _, rfl, hst, hid (fun i y hi _ => by omega)⟩
        case round =>
          clear hst
          obtain ⟨j, hj, rfl, hst, HP⟩ := hrel
          by_cases hlt : j < nl
          · have e1 : decide ((j : Int) < (nl : Int)) = true := decide_eq_true (by omega)
            have z1 : IntKind.i64.wrap ((j : Int) + 1) = (j : Int) + 1 := IntWalk.i64_in _ (by omega)
            obtain ⟨x, hx⟩ : ∃ x, t.lives[j]? = some x := ⟨_, List.getElem?_eq_getElem (by rw [HNL.out]; exact hlt)⟩
            have HXJ := hid hx
            obtain ⟨lb, lo, rfl, hr⟩ := Rd.at HLV.out hlt
            have HC := hid (hr j _ (numsV_get hx))
            clear hx hr
            cases k4 : inB x 0 2147483647
            · have HV : Hid (E = 2) := hid (by rw [HE.out]; exact err_no (ok_lives (lives_no HXJ.out k4)))
              go_wp2_with (first | go_big_skip | go_big_guard | (refine wl_index rfl rfl rfl rfl hlt ?_) | (refine wl_loadE rfl rfl rfl ?_; first | refine ⟨_, Loads.old hst (by rw [Nat.mul_one]; exact HC.out), ?_⟩ | refine ⟨_, Loads.at [] hst rfl, ?_⟩) | (go_at_call 55; refine (refWithin_any _ _ _ _).mono ?_; rintro _ w9 ⟨rfl, h4⟩; replace hst := St.call0 hst h4; clear h4))
              go_ret
              exact ⟨by have h := HV.out; subst h; rfl, hst.nil⟩
            · go_wp2_with (first | go_big_skip | go_big_guard | (refine wl_index rfl rfl rfl rfl hlt ?_) | (refine wl_loadE rfl rfl rfl ?_; first | refine ⟨_, Loads.old hst (by rw [Nat.mul_one]; exact HC.out), ?_⟩ | refine ⟨_, Loads.at [] hst rfl, ?_⟩) | (go_at_call 55; refine (refWithin_any _ _ _ _).mono ?_; rintro _ w9 ⟨rfl, h4⟩; replace hst := St.call0 hst h4; clear h4))
              go_roundw
              case rel =>
                refine ⟨j + 1, by omega, rfl, hst, hid (fun i y hi hy => ?_)⟩
                by_cases e : i = j
                · subst e
                  rw [HXJ.out] at hy
                  cases hy
                  exact k4
                · exact HP.out i y (by omega) hy
              case measure => simp [intOf]; omega
          · have e1 : decide ((j : Int) < (nl : Int)) = false := decide_eq_false (by omega)
            have HL1 : Hid (t.livesB = true) := hid (lives_all fun i x hi => HP.out i x (by have := (List.getElem?_eq_some_iff.1 hi).1; have := HNL.out; omega) hi)
            clear HP
            cases R
            · have hrec := HREC.out
              have hk : t.ok = false := by
                unfold TC.ok
                rw [Bool.and_assoc _ _ (allAt (relB t.next t.recs) t.recs), ← hrec, Bool.and_false]
              clear hrec
              have HV : Hid (E = 2) := hid (by rw [HE.out]; exact err_no hk)
              go_wp2_with (first | go_big_skip | go_big_guard | (refine wl_loadE rfl rfl rfl ?_; first | refine ⟨_, Loads.at [] hst rfl, ?_⟩ | refine ⟨_, Loads.atA (tabC t (.slice ar nr cr) (.slice al nl cl)) [] hst rfl rfl, ?_⟩ | refine ⟨_, Loads.atA [.int .i64 t.kind, .int .i64 t.dev, .int .i64 t.at_, .int .i64 t.txg] [] hst rfl rfl, ?_⟩) | (go_at_call 56; refine (records_any_r t (.slice al nl cl) ar nr cr xs _ (HR.out.old hst) hb).mono ?_; rw [← HRR.out]; rintro _ w9 ⟨rfl, h4⟩; replace hst := St.call0 hst h4; clear h4) | (go_at_call 57; refine (refCursor_any t nl HNL.out hbl _).mono ?_; rintro _ w9 ⟨rfl, h4⟩; replace hst := St.call0 hst h4; clear h4))
              go_ret
              exact ⟨by have h := HV.out; subst h; rfl, hst.nil⟩
            · cases k5 : t.curB
              · skip
                have HV : Hid (E = 2) := hid (by rw [HE.out]; exact err_no (ok_cur k5))
                go_wp2_with (first | go_big_skip | go_big_guard | (refine wl_loadE rfl rfl rfl ?_; first | refine ⟨_, Loads.at [] hst rfl, ?_⟩ | refine ⟨_, Loads.atA (tabC t (.slice ar nr cr) (.slice al nl cl)) [] hst rfl rfl, ?_⟩ | refine ⟨_, Loads.atA [.int .i64 t.kind, .int .i64 t.dev, .int .i64 t.at_, .int .i64 t.txg] [] hst rfl rfl, ?_⟩) | (go_at_call 56; refine (records_any_r t (.slice al nl cl) ar nr cr xs _ (HR.out.old hst) hb).mono ?_; rw [← HRR.out]; rintro _ w9 ⟨rfl, h4⟩; replace hst := St.call0 hst h4; clear h4) | (go_at_call 57; refine (refCursor_any t nl HNL.out hbl _).mono ?_; rintro _ w9 ⟨rfl, h4⟩; replace hst := St.call0 hst h4; clear h4))
                go_ret
                exact ⟨by have h := HV.out; subst h; rfl, hst.nil⟩
              · have hrec := Bool.and_eq_true_iff.1 HREC.out.symm
                have HV : Hid (E = 0) := hid (by rw [HE.out]; exact err_yes (ok_all HSZ1.out k5 HL1.out hrec.1 hrec.2))
                clear hrec
                go_wp2_with (first | go_big_skip | go_big_guard | (refine wl_loadE rfl rfl rfl ?_; first | refine ⟨_, Loads.at [] hst rfl, ?_⟩ | refine ⟨_, Loads.atA (tabC t (.slice ar nr cr) (.slice al nl cl)) [] hst rfl rfl, ?_⟩ | refine ⟨_, Loads.atA [.int .i64 t.kind, .int .i64 t.dev, .int .i64 t.at_, .int .i64 t.txg] [] hst rfl rfl, ?_⟩) | (go_at_call 56; refine (records_any_r t (.slice al nl cl) ar nr cr xs _ (HR.out.old hst) hb).mono ?_; rw [← HRR.out]; rintro _ w9 ⟨rfl, h4⟩; replace hst := St.call0 hst h4; clear h4) | (go_at_call 57; refine (refCursor_any t nl HNL.out hbl _).mono ?_; rintro _ w9 ⟨rfl, h4⟩; replace hst := St.call0 hst h4; clear h4))
                go_ret
                exact ⟨by have h := HV.out; subst h; rfl, hst.nil⟩
end Go.Proofs.Ytkpkaoiafppimaa
namespace Go.Proofs.Ytkpkaoiafppimaa
set_option linter.unusedVariables false
set_option linter.unusedSimpArgs false
open Go.RowKit Hp
theorem beN_numB_take (n : Int) (k i : Nat) (h0 : 0 ≤ n) (h : n < 2 ^ (8 * k)) (hi : i ≤ k) : (beN ((numB n k).take i) : Int) = n / 2 ^ (8 * (k - i)) := by
  induction i with
  | zero =>
    rw [List.take_zero, Nat.sub_zero, Int.ediv_eq_zero_of_lt h0 h]
    rfl
  | succ i ih =>
    rw [numB_take n k i hi, beN_snoc]
    have h1 := ih (by omega)
    rw [Int.natCast_add, Int.natCast_mul, h1, byteAt_int, show k - 1 - i = k - (i + 1) by omega, show ((256 : Nat) : Int) = 256 from rfl]
    have h2 : (2 : Int) ^ (8 * (k - i)) = 2 ^ (8 * (k - (i + 1))) * 256 := by
      rw [show 8 * (k - i) = 8 * (k - (i + 1)) + 8 by omega, Int.pow_add]
      rfl
    rw [h2, ← Int.ediv_ediv_of_nonneg (Int.le_of_lt (Int.pow_pos (by decide)))]
    omega
theorem beN_numB (n : Int) (k : Nat) (h0 : 0 ≤ n) (h : n < 2 ^ (8 * k)) : (beN (numB n k) : Int) = n := by
  have := beN_numB_take n k k h0 h (Nat.le_refl _)
  rw [List.take_of_length_le (by rw [length_numB]; exact Nat.le_refl _), Nat.sub_self, Nat.mul_zero] at this
  rw [this]
  simp
theorem numB_beN (l : List UInt8) : numB (beN l) l.length = l := by
  suffices h : ∀ (k : Nat) (l : List UInt8), l.length = k → ∀ m : Nat, numB ((m * 256 ^ k + beN l : Nat) : Int) k = l by
    have := h l.length l rfl 0
    simpa using this
  intro k
  induction k with
  | zero => intro l hl m; rw [List.eq_nil_of_length_eq_zero hl]; rfl
  | succ k ih =>
    intro l hl m
    match l, hl with
    | x :: l, hl =>
      have hl' : l.length = k := by simpa using hl
      have hb : beN (x :: l) = x.toNat * 256 ^ k + beN l := by
        have : ∀ (l : List UInt8) (a : Nat), l.foldl (fun a x => a * 256 + x.toNat) a = a * 256 ^ l.length + beN l := by
          intro l
          induction l with
          | nil => intro a; simp [beN]
          | cons y l ih =>
            intro a
            unfold beN
            rw [List.foldl_cons, List.foldl_cons, ih, ih (0 * 256 + y.toNat), List.length_cons, Nat.pow_succ]
            simp only [Nat.zero_mul, Nat.zero_add, Nat.add_mul, Nat.mul_assoc, Nat.mul_comm 256]
            omega
        have h9 := this l (0 * 256 + x.toNat)
        rw [hl', Nat.zero_mul, Nat.zero_add] at h9
        unfold beN at h9 ⊢
        rw [List.foldl_cons, Nat.zero_mul, Nat.zero_add]
        exact h9
      have hlt := beN_lt l
      rw [hl'] at hlt
      have hcast : ((m * 256 ^ (k + 1) + beN (x :: l) : Nat) : Int) = (((m * 256 + x.toNat) * 256 ^ k + beN l : Nat) : Int) := by
        congr 1
        rw [hb, Nat.pow_succ, Nat.add_mul, Nat.mul_assoc, Nat.mul_comm 256]
        omega
      rw [hcast]
      show byteAt _ k :: numB _ k = x :: l
      congr 1
      · have h1 := byteAt_int (((m * 256 + x.toNat) * 256 ^ k + beN l : Nat) : Int) k
        have h2 : (2 : Int) ^ (8 * k) = ((256 ^ k : Nat) : Int) := by
          rw [Int.pow_mul, Int.natCast_pow, show (2 : Int) ^ 8 = ((256 : Nat) : Int) from rfl]
        have hdiv : ((m * 256 + x.toNat) * 256 ^ k + beN l) / 256 ^ k = m * 256 + x.toNat := by
          rw [Nat.add_comm, Nat.add_mul_div_right _ _ (Nat.pow_pos (by decide)), Nat.div_eq_of_lt hlt, Nat.zero_add]
        rw [h2, ← Int.natCast_ediv, hdiv] at h1
        have hx := x.toNat_lt
        apply UInt8.toNat_inj.1
        omega
      · exact ih l hl' (m * 256 + x.toNat)
end Go.Proofs.Ytkpkaoiafppimaa
namespace Go.Proofs.Ytkpkaoiafppimaa
set_option linter.unusedVariables false
set_option linter.unusedSimpArgs false
open Go.RowKit Hp
set_option maxRecDepth 100000
/-! ### What is read is written as it was read -/
theorem take_go {B : List UInt8} {n : Nat} {s : GS} (z : Bool) (h : (s.go B.length n).short = false) : B.take (s.go B.length n).pos = B.take s.pos ++ gotG z B n s := by
  obtain ⟨_, e, hl⟩ := GS.go_ok h
  rw [gotG_go (GS.go_no h), e]
  show B.take (s.pos + n) = _
  rw [List.take_add]
theorem num_go {B : List UInt8} {n : Nat} {s : GS} (h : (s.go B.length n).short = false) : numB ((numG B n s : Nat) : Int) n = gotG false B n s := by
  have hl := gotG_len (z := false) h
  have := numB_beN (gotG false B n s)
  rw [hl] at this
  exact this
theorem take_num {B : List UInt8} {n : Nat} {s : GS} (h : (s.go B.length n).short = false) : B.take (s.go B.length n).pos = B.take s.pos ++ numB ((numG B n s : Nat) : Int) n := by rw [take_go false h, num_go h]
theorem take_rec {B : List UInt8} {s : GS} (h : (recE B s).short = false) (hr : rootOk false B s = true) : B.take (recE B s).pos = B.take s.pos ++ (recG false B s).bytes := by
  obtain ⟨h1, h2, h3, h4, h5, h6, h7, h8, h9, h10⟩ := recE_ok h
  have e1 := take_num (s := recS B s 0) h1
  have e2 := take_num (s := recS B s 1) h2
  have e3 : B.take ((recS B s 2).go B.length (numG B 1 (recS B s 1))).pos = B.take (recS B s 2).pos ++ gotG false B (numG B 1 (recS B s 1)) (recS B s 2) := take_go (s := recS B s 2) false h3
  have e4 := take_num (s := recS B s 3) h4
  have e5 := take_num (s := recS B s 4) h5
  have e6 := take_go (s := recS B s 5) false h6
  have e7 := take_num (s := recS B s 6) h7
  have e8 := take_num (s := recS B s 7) h8
  have e9 := take_num (s := recS B s 8) h9
  have e10 := take_num (s := recS B s 9) h10
  have e11 := take_num (s := recS B s 10) h
  have hn : (recG false B s).name.length = numG B 1 (recS B s 1) := gotG_len h3
  have hb : ((recG false B s).pv undef).bytes = gotG false B 47 (recS B s 5) := by
    have h' := hr
    unfold rootOk at h'
    have hp := (rOK_parts h').2
    rw [beq_iff_eq] at hp
    show bytesP (rootG (gotG false B 47 (recS B s 5))).l (rootG (gotG false B 47 (recS B s 5))).b (rootG (gotG false B 47 (recS B s 5))).v (rootG (gotG false B 47 (recS B s 5))).S = _
    unfold rootG
    rw [if_pos h']
    exact hp
  unfold RC.bytes
  rw [hn, hb]
  show B.take ((recS B s 10).go B.length 1).pos = _
  rw [e11]
  show B.take ((recS B s 9).go B.length 1).pos ++ _ = _
  rw [e10]
  show B.take ((recS B s 8).go B.length 4).pos ++ _ ++ _ = _
  rw [e9]
  show B.take ((recS B s 7).go B.length 4).pos ++ _ ++ _ ++ _ = _
  rw [e8]
  show B.take ((recS B s 6).go B.length 4).pos ++ _ ++ _ ++ _ ++ _ = _
  rw [e7]
  show B.take ((recS B s 5).go B.length 47).pos ++ _ ++ _ ++ _ ++ _ ++ _ = _
  rw [e6]
  show B.take ((recS B s 4).go B.length 1).pos ++ _ ++ _ ++ _ ++ _ ++ _ ++ _ = _
  rw [e5]
  show B.take ((recS B s 3).go B.length 1).pos ++ _ ++ _ ++ _ ++ _ ++ _ ++ _ ++ _ = _
  rw [e4]
  show B.take ((recS B s 2).go B.length (numG B 1 (recS B s 1))).pos ++ _ ++ _ ++ _ ++ _ ++ _ ++ _ ++ _ ++ _ = _
  rw [e3]
  show B.take ((recS B s 1).go B.length 1).pos ++ _ ++ _ ++ _ ++ _ ++ _ ++ _ ++ _ ++ _ ++ _ = _
  rw [e2]
  show B.take ((recS B s 0).go B.length 4).pos ++ _ ++ _ ++ _ ++ _ ++ _ ++ _ ++ _ ++ _ ++ _ ++ _ = _
  rw [e1]
  simp only [List.append_assoc]
  rfl
theorem take_recs {B : List UInt8} {s : GS} {j : Nat} (h : (stG B s j).short = false) (hr : oksG false B s j = true) : B.take (stG B s j).pos = B.take s.pos ++ (rcsG false B s j).flatMap RC.bytes := by
  induction j with
  | zero => simp [stG, rcsG]
  | succ j ih =>
    rw [oksG_succ, Bool.and_eq_true] at hr
    have hj : (stG B s j).short = false := no_short (recS_short 11) h
    rw [rcsG_succ, List.flatMap_append, ← List.append_assoc, ← ih hj hr.1]
    show B.take (recE B (stG B s j)).pos = _
    rw [take_rec h hr.2]
    simp
theorem take_lives {B : List UInt8} {s : GS} {j : Nat} (h : (lvS B s j).short = false) : B.take (lvS B s j).pos = B.take s.pos ++ (lvsG B s j).flatMap fun n => numB n 4 := by
  induction j with
  | zero => simp [lvS, lvsG]
  | succ j ih =>
    have hj : (lvS B s j).short = false := no_short GS.go_short h
    rw [lvsG_succ, List.flatMap_append, ← List.append_assoc, ← ih hj]
    show B.take ((lvS B s j).go B.length 4).pos = _
    rw [take_num h]
    simp
theorem read_write {B : List UInt8} (h : (tS9 B).short = false) (hp : (tS9 B).pos = B.length) (hr : rootsG B = true) : (tabG false B).bytes = B := by
  obtain ⟨h1, h2, h3, h4, h5, h6, h7, h8⟩ := tab_there h
  have e1 := take_num (s := GS.mk 0 false) h1
  have e2 := take_num (s := tS1 B) h2
  have e3 := take_recs (s := tS2 B) (j := tMany B) h3 hr
  have e4 := take_num (s := tS3 B) h4
  have e5 := take_num (s := tS4 B) h5
  have e6 := take_num (s := tS5 B) h6
  have e7 := take_num (s := tS6 B) h7
  have e8 := take_num (s := tS7 B) h8
  have e9 := take_lives (s := tS8 B) (j := tLives B) h
  have e : B.take (tS9 B).pos = B := by rw [hp, List.take_length]
  have hm : (tabG false B).recs.length = numG B 1 (tS1 B) := length_rcsG _ _ _ _
  have hl : (tabG false B).lives.length = numG B 1 (tS7 B) := length_lvsG _ _ _
  unfold TC.bytes
  rw [hm, hl]
  refine Eq.trans ?_ e
  show _ = B.take (lvS B (tS8 B) (tLives B)).pos
  rw [e9]
  show _ = B.take ((tS7 B).go B.length 1).pos ++ _
  rw [e8]
  show _ = B.take ((tS6 B).go B.length 4).pos ++ _ ++ _
  rw [e7]
  show _ = B.take ((tS5 B).go B.length 4).pos ++ _ ++ _ ++ _
  rw [e6]
  show _ = B.take ((tS4 B).go B.length 1).pos ++ _ ++ _ ++ _ ++ _
  rw [e5]
  show _ = B.take ((tS3 B).go B.length 1).pos ++ _ ++ _ ++ _ ++ _ ++ _
  rw [e4]
  show _ = B.take (stG B (tS2 B) (tMany B)).pos ++ _ ++ _ ++ _ ++ _ ++ _ ++ _
  rw [e3]
  show _ = B.take ((tS1 B).go B.length 1).pos ++ _ ++ _ ++ _ ++ _ ++ _ ++ _ ++ _
  rw [e2]
  show _ = B.take ((GS.mk 0 false).go B.length 4).pos ++ _ ++ _ ++ _ ++ _ ++ _ ++ _ ++ _ ++ _
  rw [e1]
  simp only [List.append_assoc, List.take_zero, List.nil_append]
  rfl
theorem gOK_bytes {B : List UInt8} (h : gOK B = true) : (tabG false B).bytes = B ∧ (tabG false B).ok = true := by
  unfold gOK at h
  simp only [Bool.and_eq_true, beq_iff_eq, Bool.not_eq_true'] at h
  exact ⟨read_write h.1.1.1 h.1.1.2 h.1.2, h.2⟩
/-! ### What is written is read back -/
theorem go_at (z : Bool) (A P C : List UInt8) {n : Nat} (hn : P.length = n) : gotG z (A ++ (P ++ C)) n ⟨A.length, false⟩ = P ∧ (GS.mk A.length false).go (A ++ (P ++ C)).length n = ⟨(A ++ P).length, false⟩ := by
  have hs : (GS.mk A.length false).stop (A ++ (P ++ C)).length n = false := by
    unfold GS.stop
    simp
    omega
  refine ⟨?_, ?_⟩
  · rw [gotG_go hs]
    show ((A ++ (P ++ C)).drop A.length).take n = P
    rw [List.drop_left, ← hn, List.take_left]
  · rw [GS.go_go hs, List.length_append, hn]
theorem num_at (A C : List UInt8) {x : Int} {n : Nat} (h0 : 0 ≤ x) (h : x < 2 ^ (8 * n)) : ((numG (A ++ (numB x n ++ C)) n ⟨A.length, false⟩ : Nat) : Int) = x ∧ (GS.mk A.length false).go (A ++ (numB x n ++ C)).length n = ⟨(A ++ numB x n).length, false⟩ := by
  obtain ⟨e1, e2⟩ := go_at false A (numB x n) C (length_numB x n)
  refine ⟨?_, e2⟩
  unfold numG
  rw [e1]
  exact beN_numB x n h0 h
theorem root_back {p : PV} (h : p.ok = true) (hS : L32 p.S) : rOK p.bytes = true ∧ rootG p.bytes = ⟨p.l, p.b, p.v, p.S⟩ := by
  have hr : rOK p.bytes = true := rOK_bytes h hS
  refine ⟨hr, ?_⟩
  obtain ⟨e1, e2, e3, e4⟩ := read_bytes (S := p.S) h
  unfold rootG
  rw [if_pos hr]
  show RT.mk (rAddrs (bytesP p.l p.b p.v p.S) 3) (rBirth (bytesP p.l p.b p.v p.S)) (rLevel (bytesP p.l p.b p.v p.S)) (rSum (bytesP p.l p.b p.v p.S)) = _
  rw [e1, e2, e3, e4]
theorem R31.lt {z : Int} (h : R31 z) : 0 ≤ z ∧ z < 2 ^ (8 * 4) := ⟨h.1, by have := h.2; omega⟩
theorem lt1 {z k : Int} (h : inB z 0 k = true) (hk : k < 256) : 0 ≤ z ∧ z < 2 ^ (8 * 1) := by
  unfold inB at h
  simp only [Bool.and_eq_true, decide_eq_true_eq] at h
  exact ⟨h.1, by have := h.2; omega⟩
/-- The numbers of one byte are less than 256. -/
structure RC.Sm (r : RC) : Prop where
  kind : 0 ≤ r.kind ∧ r.kind < 2 ^ (8 * 1)
  size : 0 ≤ r.size ∧ r.size < 2 ^ (8 * 1)
  quota : 0 ≤ r.quota ∧ r.quota < 2 ^ (8 * 1)
  reserve : 0 ≤ r.reserve ∧ r.reserve < 2 ^ (8 * 1)
  name : 0 ≤ (r.name.length : Int) ∧ (r.name.length : Int) < 2 ^ (8 * 1)
theorem eq_sm {z k : Int} (h : (z == k) = true) (h0 : 0 ≤ k) (hk : k < 256) : 0 ≤ z ∧ z < 2 ^ (8 * 1) := by
  rw [beq_iff_eq] at h
  subst h
  exact ⟨h0, by omega⟩
theorem inB_sm {z a k : Int} (h : inB z a k = true) (h0 : 0 ≤ a) (hk : k < 256) : 0 ≤ z ∧ z < 2 ^ (8 * 1) := by
  unfold inB at h
  simp only [Bool.and_eq_true, decide_eq_true_eq] at h
  exact ⟨by omega, by have := h.2; omega⟩
theorem alone_sm {r : RC} (h : r.aloneB = true) : r.Sm := by
  have hn := (alone_bd h).name
  have hn' : 0 ≤ (r.name.length : Int) ∧ (r.name.length : Int) < 2 ^ (8 * 1) := ⟨by omega, by omega⟩
  unfold RC.aloneB at h
  simp only [Bool.and_eq_true] at h
  obtain ⟨⟨⟨⟨h1, h2⟩, h3⟩, h4⟩, h5⟩ := h
  unfold RC.kindB at h5
  by_cases k1 : (r.kind == 1) = true
  · rw [if_pos k1] at h5
    simp only [Bool.and_eq_true] at h5
    obtain ⟨⟨⟨⟨a1, a2⟩, a3⟩, a4⟩, a5⟩ := h5
    exact ⟨eq_sm k1 (by decide) (by decide), inB_sm h2 (by decide) (by decide), inB_sm a4 (by decide) (by decide), inB_sm a5 (by decide) (by decide), hn'⟩
  · rw [if_neg k1] at h5
    by_cases k2 : (r.kind == 2) = true
    · rw [if_pos k2] at h5
      simp only [Bool.and_eq_true] at h5
      obtain ⟨⟨⟨⟨⟨a1, a2⟩, a3⟩, a4⟩, a5⟩, a6⟩ := h5
      exact ⟨eq_sm k2 (by decide) (by decide), inB_sm h2 (by decide) (by decide), eq_sm a4 (by decide) (by decide), eq_sm a5 (by decide) (by decide), hn'⟩
    · rw [if_neg k2] at h5
      cases h5
theorem num_at' {B : List UInt8} (A C : List UInt8) {x : Int} {n : Nat} {s : GS} (hB : B = A ++ (numB x n ++ C)) (hs : s = ⟨A.length, false⟩) (h : 0 ≤ x ∧ x < 2 ^ (8 * n)) : ((numG B n s : Nat) : Int) = x ∧ s.go B.length n = ⟨(A ++ numB x n).length, false⟩ := by
  subst hB; subst hs
  exact num_at A C h.1 h.2
theorem got_at' {B : List UInt8} (A P C : List UInt8) {n : Nat} {s : GS} (hB : B = A ++ (P ++ C)) (hs : s = ⟨A.length, false⟩) (hn : P.length = n) : gotG false B n s = P ∧ s.go B.length n = ⟨(A ++ P).length, false⟩ := by
  subst hB; subst hs
  exact go_at false A P C hn
theorem rec_back {B : List UInt8} (A C : List UInt8) {r : RC} (hB : B = A ++ (r.bytes ++ C)) (hb : r.Bd) (hs : r.Sm) (hS : L32 r.S) :
    recG false B ⟨A.length, false⟩ = r ∧ rootOk false B ⟨A.length, false⟩ = true ∧ recE B ⟨A.length, false⟩ = ⟨(A ++ r.bytes).length, false⟩ := by
  unfold RC.bytes at hB
  simp only [List.append_assoc] at hB
  have h47 : ((r.pv undef).bytes).length = 47 := length_bytesP _ _ _ (S := (r.pv undef).S) hS
  obtain ⟨n1, s1⟩ := num_at' (B := B) (n := 4) (s := (GS.mk A.length false)) (A) _ hB rfl hb.id.lt
  obtain ⟨n2, s2⟩ := num_at' (B := B) (n := 1) (s := (rS1 B ⟨A.length, false⟩)) (A ++ numB r.id 4) _ (by simp only [List.append_assoc]; exact hB) s1 hs.name
  have hN : numG B 1 (rS1 B ⟨A.length, false⟩) = r.name.length := by
    have : ((numG B 1 (rS1 B ⟨A.length, false⟩) : Nat) : Int) = (r.name.length : Int) := n2
    omega
  obtain ⟨n3, s3⟩ := got_at' (B := B) (n := r.name.length) (s := (rS2 B ⟨A.length, false⟩)) (A ++ numB r.id 4 ++ numB (r.name.length : Int) 1) (r.name) _ (by simp only [List.append_assoc]; exact hB) s2 rfl
  have s3' : rS3 B ⟨A.length, false⟩ = ⟨(A ++ numB r.id 4 ++ numB (r.name.length : Int) 1 ++ r.name).length, false⟩ := by
    show (rS2 B ⟨A.length, false⟩).go B.length (numG B 1 (rS1 B ⟨A.length, false⟩)) = _
    rw [hN]
    exact s3
  obtain ⟨n4, s4⟩ := num_at' (B := B) (n := 1) (s := (rS3 B ⟨A.length, false⟩)) (A ++ numB r.id 4 ++ numB (r.name.length : Int) 1 ++ r.name) _ (by simp only [List.append_assoc]; exact hB) s3' hs.kind
  obtain ⟨n5, s5⟩ := num_at' (B := B) (n := 1) (s := (rS4 B ⟨A.length, false⟩)) (A ++ numB r.id 4 ++ numB (r.name.length : Int) 1 ++ r.name ++ numB r.kind 1) _ (by simp only [List.append_assoc]; exact hB) s4 hs.size
  obtain ⟨n6, s6⟩ := got_at' (B := B) (n := 47) (s := (rS5 B ⟨A.length, false⟩)) (A ++ numB r.id 4 ++ numB (r.name.length : Int) 1 ++ r.name ++ numB r.kind 1 ++ numB r.size 1) ((r.pv undef).bytes) _ (by simp only [List.append_assoc]; exact hB) s5 h47
  obtain ⟨n7, s7⟩ := num_at' (B := B) (n := 4) (s := (rS6 B ⟨A.length, false⟩)) (A ++ numB r.id 4 ++ numB (r.name.length : Int) 1 ++ r.name ++ numB r.kind 1 ++ numB r.size 1 ++ (r.pv undef).bytes) _ (by simp only [List.append_assoc]; exact hB) s6 hb.made.lt
  obtain ⟨n8, s8⟩ := num_at' (B := B) (n := 4) (s := (rS7 B ⟨A.length, false⟩)) (A ++ numB r.id 4 ++ numB (r.name.length : Int) 1 ++ r.name ++ numB r.kind 1 ++ numB r.size 1 ++ (r.pv undef).bytes ++ numB r.made 4) _ (by simp only [List.append_assoc]; exact hB) s7 hb.own.lt
  obtain ⟨n9, s9⟩ := num_at' (B := B) (n := 4) (s := (rS8 B ⟨A.length, false⟩)) (A ++ numB r.id 4 ++ numB (r.name.length : Int) 1 ++ r.name ++ numB r.kind 1 ++ numB r.size 1 ++ (r.pv undef).bytes ++ numB r.made 4 ++ numB r.own 4) _ (by simp only [List.append_assoc]; exact hB) s8 hb.origin.lt
  obtain ⟨n10, s10⟩ := num_at' (B := B) (n := 1) (s := (rS9 B ⟨A.length, false⟩)) (A ++ numB r.id 4 ++ numB (r.name.length : Int) 1 ++ r.name ++ numB r.kind 1 ++ numB r.size 1 ++ (r.pv undef).bytes ++ numB r.made 4 ++ numB r.own 4 ++ numB r.origin 4) _ (by simp only [List.append_assoc]; exact hB) s9 hs.quota
  obtain ⟨n11, s11⟩ := num_at' (B := B) (n := 1) (s := (rS10 B ⟨A.length, false⟩)) (A ++ numB r.id 4 ++ numB (r.name.length : Int) 1 ++ r.name ++ numB r.kind 1 ++ numB r.size 1 ++ (r.pv undef).bytes ++ numB r.made 4 ++ numB r.own 4 ++ numB r.origin 4 ++ numB r.quota 1) _ (by simp only [List.append_assoc]; exact hB) s10 hs.reserve
  obtain ⟨hr, hg⟩ := root_back (p := r.pv undef) hb.root hS
  have n3' : gotG false B (numG B 1 (rS1 B ⟨A.length, false⟩)) (rS2 B ⟨A.length, false⟩) = r.name := by rw [hN]; exact n3
  refine ⟨?_, ?_, ?_⟩
  · show RC.mk _ _ _ _ _ _ _ _ (gotG false B (numG B 1 (rS1 B ⟨A.length, false⟩)) (rS2 B ⟨A.length, false⟩)) (rootG (gotG false B 47 (rS5 B ⟨A.length, false⟩))).l (rootG (gotG false B 47 (rS5 B ⟨A.length, false⟩))).b (rootG (gotG false B 47 (rS5 B ⟨A.length, false⟩))).v (rootG (gotG false B 47 (rS5 B ⟨A.length, false⟩))).S = r
    rw [n3', n6, hg]
    show RC.mk ((numG B 4 ⟨A.length, false⟩ : Nat) : Int) ((numG B 1 (rS3 B ⟨A.length, false⟩) : Nat) : Int) ((numG B 1 (rS4 B ⟨A.length, false⟩) : Nat) : Int) ((numG B 4 (rS6 B ⟨A.length, false⟩) : Nat) : Int) ((numG B 4 (rS7 B ⟨A.length, false⟩) : Nat) : Int) ((numG B 4 (rS8 B ⟨A.length, false⟩) : Nat) : Int) ((numG B 1 (rS9 B ⟨A.length, false⟩) : Nat) : Int) ((numG B 1 (rS10 B ⟨A.length, false⟩) : Nat) : Int) r.name r.l r.b r.v r.S = r
    rw [n1, n4, n5, n7, n8, n9, n10, n11]
  · show rOK (gotG false B 47 (rS5 B ⟨A.length, false⟩)) = true
    rw [n6]
    exact hr
  · show rS11 B ⟨A.length, false⟩ = _
    unfold RC.bytes
    simp only [List.append_assoc] at s11 ⊢
    exact s11
theorem recs_back {B : List UInt8} : ∀ (l : List RC) (A C : List UInt8), B = A ++ (l.flatMap RC.bytes ++ C) → (∀ r ∈ l, r.Bd ∧ r.Sm ∧ L32 r.S) → ∀ j, j ≤ l.length → rcsG false B ⟨A.length, false⟩ j = l.take j ∧ oksG false B ⟨A.length, false⟩ j = true ∧ stG B ⟨A.length, false⟩ j = ⟨(A ++ (l.take j).flatMap RC.bytes).length, false⟩ := by
  intro l A C hB hl j
  induction j with
  | zero => intro _; exact ⟨by simp [rcsG], rfl, by simp [stG]⟩
  | succ j ih =>
    intro hj
    obtain ⟨e1, e2, e3⟩ := ih (by omega)
    obtain ⟨r, hr⟩ : ∃ r, l[j]? = some r := ⟨_, List.getElem?_eq_getElem (by omega)⟩
    obtain ⟨b1, b2, b3⟩ := hl r (List.mem_of_getElem? hr)
    have hd : l.drop j = r :: l.drop (j + 1) := by
      obtain ⟨hlt, hg⟩ := List.getElem?_eq_some_iff.1 hr
      rw [List.drop_eq_getElem_cons hlt, hg]
    have hB' : B = (A ++ (l.take j).flatMap RC.bytes) ++ (r.bytes ++ ((l.drop (j + 1)).flatMap RC.bytes ++ C)) := by
      have hs : l.flatMap RC.bytes = (l.take j).flatMap RC.bytes ++ (r.bytes ++ (l.drop (j + 1)).flatMap RC.bytes) := by
        rw [← List.flatMap_cons, ← hd, ← List.flatMap_append, List.take_append_drop]
      rw [hB, hs]
      simp only [List.append_assoc]
    obtain ⟨q1, q2, q3⟩ := rec_back _ _ hB' b1 b2 b3
    refine ⟨?_, ?_, ?_⟩
    · rw [rcsG_succ, e1, e3, q1, List.take_add_one, hr]; rfl
    · rw [oksG_succ, e2, e3, q2]; rfl
    · show recE B (stG B ⟨A.length, false⟩ j) = _
      rw [e3, q3, flat_step RC.bytes hr, List.append_assoc]
theorem lives_back {B : List UInt8} : ∀ (l : List Int) (A C : List UInt8), B = A ++ ((l.flatMap fun n => numB n 4) ++ C) → (∀ z ∈ l, R31 z) → ∀ j, j ≤ l.length → lvsG B ⟨A.length, false⟩ j = l.take j ∧ lvS B ⟨A.length, false⟩ j = ⟨(A ++ (l.take j).flatMap fun n => numB n 4).length, false⟩ := by
  intro l A C hB hl j
  induction j with
  | zero => intro _; exact ⟨by simp [lvsG], by simp [lvS]⟩
  | succ j ih =>
    intro hj
    obtain ⟨e1, e3⟩ := ih (by omega)
    obtain ⟨r, hr⟩ : ∃ r, l[j]? = some r := ⟨_, List.getElem?_eq_getElem (by omega)⟩
    have b := hl r (List.mem_of_getElem? hr)
    have hd : l.drop j = r :: l.drop (j + 1) := by
      obtain ⟨hlt, hg⟩ := List.getElem?_eq_some_iff.1 hr
      rw [List.drop_eq_getElem_cons hlt, hg]
    have hB' : B = (A ++ (l.take j).flatMap fun n => numB n 4) ++ (numB r 4 ++ (((l.drop (j + 1)).flatMap fun n => numB n 4) ++ C)) := by
      have hs : (l.flatMap fun n => numB n 4) = ((l.take j).flatMap fun n => numB n 4) ++ (numB r 4 ++ (l.drop (j + 1)).flatMap fun n => numB n 4) := by
        rw [show numB r 4 ++ ((l.drop (j + 1)).flatMap fun n => numB n 4) = (l.drop j).flatMap fun n => numB n 4 by rw [hd, List.flatMap_cons], ← List.flatMap_append, List.take_append_drop]
      rw [hB, hs]
      simp only [List.append_assoc]
    obtain ⟨q1, q2⟩ := num_at' (n := 4) _ _ hB' e3 b.lt
    refine ⟨?_, ?_⟩
    · rw [lvsG_succ, e1, q1, List.take_add_one, hr]; rfl
    · show (lvS B ⟨A.length, false⟩ j).go B.length 4 = _
      rw [q2, flat_step _ hr, List.append_assoc]
theorem tab_back {t : TC} (h : t.ok = true) (hS : ∀ r ∈ t.recs, L32 r.S) : tabG false t.bytes = t ∧ rootsG t.bytes = true ∧ tS9 t.bytes = ⟨t.bytes.length, false⟩ := by
  have hb := ok_bd h
  have hsm : ∀ r ∈ t.recs, r.Bd ∧ r.Sm ∧ L32 r.S := fun r hr => by
    refine ⟨hb.recs r hr, ?_, hS r hr⟩
    unfold TC.ok at h
    simp only [Bool.and_eq_true] at h
    obtain ⟨i, hi⟩ := List.getElem?_of_mem hr
    have := allAt_at h.1.2 hi
    unfold eachB at this
    exact alone_sm (Bool.and_eq_true_iff.1 this).1
  have hcur : (0 ≤ t.kind ∧ t.kind < 2 ^ (8 * 1)) ∧ (0 ≤ t.dev ∧ t.dev < 2 ^ (8 * 1)) := by
    have hc : t.curB = true := by
      unfold TC.ok at h
      simp only [Bool.and_eq_true] at h
      exact h.1.1.1.2
    unfold TC.curB at hc
    rcases Bool.or_eq_true_iff.1 hc with hc | hc
    · unfold TC.cur0 at hc
      simp at hc
      obtain ⟨h1, h2, _⟩ := hc
      rw [h1, h2]
      decide
    · simp only [Bool.and_eq_true] at hc
      have hl := hb.lives
      rcases Bool.or_eq_true_iff.1 hc.2 with hc | hc
      · simp only [Bool.and_eq_true] at hc
        exact ⟨eq_sm hc.1 (by decide) (by decide), eq_sm hc.2 (by decide) (by decide)⟩
      · simp only [Bool.and_eq_true] at hc
        exact ⟨eq_sm hc.1 (by decide) (by decide), inB_sm hc.2 (by decide) (by omega)⟩
  have hm := hb.many
  have hv := hb.lives
  obtain ⟨B, hB⟩ : ∃ B, B = t.bytes := ⟨_, rfl⟩
  rw [← hB]
  unfold TC.bytes at hB
  simp only [List.append_assoc] at hB
  obtain ⟨n1, s1⟩ := num_at' (B := B) (n := 4) (s := (GS.mk ([] : List UInt8).length false)) ([]) _ (by simp only [List.nil_append]; exact hB) rfl hb.next.lt
  obtain ⟨n2, s2⟩ := num_at' (B := B) (n := 1) (s := (tS1 B)) ([] ++ numB t.next 4) _ (by simp only [List.append_assoc, List.nil_append]; exact hB) s1 ⟨by omega, by omega⟩
  have hN : tMany B = t.recs.length := by
    have : ((numG B 1 (tS1 B) : Nat) : Int) = (t.recs.length : Int) := n2
    unfold tMany
    omega
  have s2' : tS2 B = ⟨([] ++ numB t.next 4 ++ numB (t.recs.length : Int) 1).length, false⟩ := s2
  obtain ⟨r1, r2, r3⟩ := recs_back (B := B) t.recs ([] ++ numB t.next 4 ++ numB (t.recs.length : Int) 1) _ (by simp only [List.append_assoc, List.nil_append]; exact hB) hsm t.recs.length (Nat.le_refl _)
  rw [List.take_length] at r1 r3
  have s3 : tS3 B = ⟨([] ++ numB t.next 4 ++ numB (t.recs.length : Int) 1 ++ t.recs.flatMap RC.bytes).length, false⟩ := by
    unfold tS3
    rw [hN, s2', r3]
  obtain ⟨n4, s4⟩ := num_at' (B := B) (n := 1) (s := (tS3 B)) ([] ++ numB t.next 4 ++ numB (t.recs.length : Int) 1 ++ t.recs.flatMap RC.bytes) _ (by simp only [List.append_assoc, List.nil_append]; exact hB) s3 hcur.1
  obtain ⟨n5, s5⟩ := num_at' (B := B) (n := 1) (s := (tS4 B)) ([] ++ numB t.next 4 ++ numB (t.recs.length : Int) 1 ++ t.recs.flatMap RC.bytes ++ numB t.kind 1) _ (by simp only [List.append_assoc, List.nil_append]; exact hB) s4 hcur.2
  obtain ⟨n6, s6⟩ := num_at' (B := B) (n := 4) (s := (tS5 B)) ([] ++ numB t.next 4 ++ numB (t.recs.length : Int) 1 ++ t.recs.flatMap RC.bytes ++ numB t.kind 1 ++ numB t.dev 1) _ (by simp only [List.append_assoc, List.nil_append]; exact hB) s5 hb.at_.lt
  obtain ⟨n7, s7⟩ := num_at' (B := B) (n := 4) (s := (tS6 B)) ([] ++ numB t.next 4 ++ numB (t.recs.length : Int) 1 ++ t.recs.flatMap RC.bytes ++ numB t.kind 1 ++ numB t.dev 1 ++ numB t.at_ 4) _ (by simp only [List.append_assoc, List.nil_append]; exact hB) s6 hb.txg.lt
  obtain ⟨n8, s8⟩ := num_at' (B := B) (n := 1) (s := (tS7 B)) ([] ++ numB t.next 4 ++ numB (t.recs.length : Int) 1 ++ t.recs.flatMap RC.bytes ++ numB t.kind 1 ++ numB t.dev 1 ++ numB t.at_ 4 ++ numB t.txg 4) _ (by simp only [List.append_assoc, List.nil_append]; exact hB) s7 ⟨by omega, by omega⟩
  have hL : tLives B = t.lives.length := by
    have : ((numG B 1 (tS7 B) : Nat) : Int) = (t.lives.length : Int) := n8
    unfold tLives
    omega
  have s8' : tS8 B = ⟨([] ++ numB t.next 4 ++ numB (t.recs.length : Int) 1 ++ t.recs.flatMap RC.bytes ++ numB t.kind 1 ++ numB t.dev 1 ++ numB t.at_ 4 ++ numB t.txg 4 ++ numB (t.lives.length : Int) 1).length, false⟩ := s8
  obtain ⟨l1, l3⟩ := lives_back (B := B) t.lives ([] ++ numB t.next 4 ++ numB (t.recs.length : Int) 1 ++ t.recs.flatMap RC.bytes ++ numB t.kind 1 ++ numB t.dev 1 ++ numB t.at_ 4 ++ numB t.txg 4 ++ numB (t.lives.length : Int) 1) [] (by simp only [List.append_assoc, List.nil_append, List.append_nil]; exact hB) hb.live t.lives.length (Nat.le_refl _)
  rw [List.take_length] at l1 l3
  have q1 : rcsG false B (tS2 B) (tMany B) = t.recs := by rw [hN, s2', r1]
  have q2 : lvsG B (tS8 B) (tLives B) = t.lives := by rw [hL, s8', l1]
  refine ⟨?_, ?_, ?_⟩
  · show TC.mk ((numG B 4 ⟨0, false⟩ : Nat) : Int) (rcsG false B (tS2 B) (tMany B)) ((numG B 1 (tS3 B) : Nat) : Int) ((numG B 1 (tS4 B) : Nat) : Int) ((numG B 4 (tS5 B) : Nat) : Int) ((numG B 4 (tS6 B) : Nat) : Int) (lvsG B (tS8 B) (tLives B)) = t
    have n1' : ((numG B 4 ⟨0, false⟩ : Nat) : Int) = t.next := n1
    rw [q1, q2, n1', n4, n5, n6, n7]
  · unfold rootsG
    rw [hN, s2', r2]
  · unfold tS9
    rw [hL, s8', l3, hB]
    simp only [List.append_assoc, List.nil_append]
theorem back_ok {t : TC} (h : t.ok = true) (hS : ∀ r ∈ t.recs, L32 r.S) : gOK t.bytes = true ∧ tabG false t.bytes = t := by
  obtain ⟨e1, e2, e3⟩ := tab_back h hS
  refine ⟨?_, e1⟩
  unfold gOK
  rw [e1, e2, e3, h]
  simp
theorem tab_one {t u : TC} (ht : t.ok = true) (hu : u.ok = true) (hS : ∀ r ∈ t.recs, L32 r.S) (hS' : ∀ r ∈ u.recs, L32 r.S) (h : t.bytes = u.bytes) : t = u := by
  have e1 := (back_ok ht hS).2
  have e2 := (back_ok hu hS').2
  rw [← e1, ← e2, h]
/-! ### Bytes that are cut short -/
theorem cut_go {N N' n : Nat} {s : GS} (hN : N' ≤ N) (h : (s.go N' n).short = false) : s.go N n = s.go N' n := by
  obtain ⟨h0, e, hl⟩ := GS.go_ok h
  rw [e]
  refine GS.go_go ?_
  unfold GS.stop
  rw [h0]
  simp
  omega
theorem cut_got {B : List UInt8} {k n : Nat} {s : GS} (hk : k ≤ B.length) (h : (s.go (B.take k).length n).short = false) : gotG false (B.take k) n s = gotG false B n s := by
  have h' := cut_go (N := B.length) (by rw [List.length_take]; omega) h
  obtain ⟨h0, e, hl⟩ := GS.go_ok h
  rw [gotG_go (GS.go_no h), gotG_go (GS.go_no (by rw [h']; exact h))]
  rw [List.length_take] at hl
  rw [List.drop_take, List.take_take, Nat.min_eq_left (by omega)]
theorem cut_num {B : List UInt8} {k n : Nat} {s : GS} (hk : k ≤ B.length) (h : (s.go (B.take k).length n).short = false) : numG (B.take k) n s = numG B n s := by
  unfold numG
  rw [cut_got hk h]
theorem cut_rec {B : List UInt8} {k : Nat} {s : GS} (hk : k ≤ B.length) (h : (recE (B.take k) s).short = false) : recE B s = recE (B.take k) s := by
  have hl : (B.take k).length ≤ B.length := by rw [List.length_take]; omega
  obtain ⟨h1, h2, h3, h4, h5, h6, h7, h8, h9, h10⟩ := recE_ok h
  have e1 : rS1 B s = rS1 (B.take k) s := cut_go hl h1
  have e2 : rS2 B s = rS2 (B.take k) s := by unfold rS2; rw [e1]; exact cut_go hl h2
  have en : numG B 1 (rS1 B s) = numG (B.take k) 1 (rS1 (B.take k) s) := by rw [e1]; exact (cut_num hk h2).symm
  have e3 : rS3 B s = rS3 (B.take k) s := by unfold rS3; rw [e2, en]; exact cut_go hl h3
  have e4 : rS4 B s = rS4 (B.take k) s := by unfold rS4; rw [e3]; exact cut_go hl h4
  have e5 : rS5 B s = rS5 (B.take k) s := by unfold rS5; rw [e4]; exact cut_go hl h5
  have e6 : rS6 B s = rS6 (B.take k) s := by unfold rS6; rw [e5]; exact cut_go hl h6
  have e7 : rS7 B s = rS7 (B.take k) s := by unfold rS7; rw [e6]; exact cut_go hl h7
  have e8 : rS8 B s = rS8 (B.take k) s := by unfold rS8; rw [e7]; exact cut_go hl h8
  have e9 : rS9 B s = rS9 (B.take k) s := by unfold rS9; rw [e8]; exact cut_go hl h9
  have e10 : rS10 B s = rS10 (B.take k) s := by unfold rS10; rw [e9]; exact cut_go hl h10
  show rS11 B s = rS11 (B.take k) s
  unfold rS11
  rw [e10]
  exact cut_go hl h
theorem cut_st {B : List UInt8} {k : Nat} {s : GS} (hk : k ≤ B.length) {j : Nat} (h : (stG (B.take k) s j).short = false) : stG B s j = stG (B.take k) s j := by
  induction j with
  | zero => rfl
  | succ j ih =>
    have hj : (stG (B.take k) s j).short = false := no_short (recS_short 11) h
    show recE B (stG B s j) = _
    rw [ih hj]
    exact cut_rec hk h
theorem cut_lv {B : List UInt8} {k : Nat} {s : GS} (hk : k ≤ B.length) {j : Nat} (h : (lvS (B.take k) s j).short = false) : lvS B s j = lvS (B.take k) s j := by
  have hl : (B.take k).length ≤ B.length := by rw [List.length_take]; omega
  induction j with
  | zero => rfl
  | succ j ih =>
    have hj : (lvS (B.take k) s j).short = false := no_short GS.go_short h
    show (lvS B s j).go B.length 4 = _
    rw [ih hj]
    exact cut_go hl h
theorem go_le {N n : Nat} {s : GS} (h : s.pos ≤ N) : (s.go N n).pos ≤ N := GS.go_pos h
theorem rec_le {B : List UInt8} {s : GS} (h : s.pos ≤ B.length) : (recE B s).pos ≤ B.length :=
  go_le (go_le (go_le (go_le (go_le (go_le (go_le (go_le (go_le (go_le (go_le h))))))))))
theorem st_le {B : List UInt8} {s : GS} (h : s.pos ≤ B.length) : ∀ j, (stG B s j).pos ≤ B.length
  | 0 => h
  | j + 1 => rec_le (st_le h j)
theorem lv_le {B : List UInt8} {s : GS} (h : s.pos ≤ B.length) : ∀ j, (lvS B s j).pos ≤ B.length
  | 0 => h
  | j + 1 => go_le (lv_le h j)
theorem tS2_le (B : List UInt8) : (tS2 B).pos ≤ B.length := go_le (go_le (Nat.zero_le _))
theorem tS8_le (B : List UInt8) : (tS8 B).pos ≤ B.length := go_le (go_le (go_le (go_le (go_le (st_le (tS2_le B) _)))))
theorem tS9_le (B : List UInt8) : (tS9 B).pos ≤ B.length := lv_le (tS8_le B) _
theorem cut_tab {B : List UInt8} {k : Nat} (hk : k < B.length) (hp : tS9 B = ⟨B.length, false⟩) : (tS9 (B.take k)).short = true := by
  cases h : (tS9 (B.take k)).short with
  | true => rfl
  | false =>
    exfalso
    have hk' : k ≤ B.length := by omega
    have hl : (B.take k).length ≤ B.length := by rw [List.length_take]; omega
    obtain ⟨h1, h2, h3, h4, h5, h6, h7, h8⟩ := tab_there h
    have e1 : tS1 B = tS1 (B.take k) := cut_go hl h1
    have e2 : tS2 B = tS2 (B.take k) := by unfold tS2; rw [e1]; exact cut_go hl h2
    have em : tMany B = tMany (B.take k) := by unfold tMany; rw [e1]; exact (cut_num hk' h2).symm
    have e3 : tS3 B = tS3 (B.take k) := by unfold tS3; rw [e2, em]; exact cut_st hk' h3
    have e4 : tS4 B = tS4 (B.take k) := by unfold tS4; rw [e3]; exact cut_go hl h4
    have e5 : tS5 B = tS5 (B.take k) := by unfold tS5; rw [e4]; exact cut_go hl h5
    have e6 : tS6 B = tS6 (B.take k) := by unfold tS6; rw [e5]; exact cut_go hl h6
    have e7 : tS7 B = tS7 (B.take k) := by unfold tS7; rw [e6]; exact cut_go hl h7
    have e8 : tS8 B = tS8 (B.take k) := by unfold tS8; rw [e7]; exact cut_go hl h8
    have el : tLives B = tLives (B.take k) := by unfold tLives; rw [e7]; exact (cut_num hk' h8).symm
    have e9 : tS9 B = tS9 (B.take k) := by unfold tS9; rw [e8, el]; exact cut_lv hk' h
    have := tS9_le (B.take k)
    rw [← e9, hp, List.length_take] at this
    simp at this
    omega
theorem cut_err {t : TC} (h : t.ok = true) (hS : ∀ r ∈ t.recs, L32 r.S) {k : Nat} (hk : k < t.bytes.length) : gErr (t.bytes.take k) = 4 ∧ gAt (t.bytes.take k) = k ∧ gOK (t.bytes.take k) = false := by
  have hs := cut_tab hk (tab_back h hS).2.2
  refine ⟨?_, ?_, ?_⟩
  · unfold gErr; rw [if_pos hs]
  · unfold gAt; rw [if_pos hs, List.length_take]; omega
  · unfold gOK; rw [hs]; rfl
end Go.Proofs.Ytkpkaoiafppimaa
namespace Go.Proofs.Ytkpkaoiafppimaa
set_option linter.unusedVariables false
set_option linter.unusedSimpArgs false
open Go.RowKit Hp
/-- The rows of the records' addresses. -/
def rootRows (E : TypeId) (xs : List (Value × RC)) : List HA := xs.reverse.map fun x => .row x.1 E 2 x.2.l.length (addrsV x.2.l)
theorem rootRows_add (E : TypeId) (xs : List (Value × RC)) (x : Value × RC) : rootRows E (xs ++ [x]) = .row x.1 E 2 x.2.l.length (addrsV x.2.l) :: rootRows E xs := by simp [rootRows]
theorem rootRows_mem {E : TypeId} {xs : List (Value × RC)} {x : Value × RC} (h : x ∈ xs) : HA.row x.1 E 2 x.2.l.length (addrsV x.2.l) ∈ rootRows E xs := by
  unfold rootRows
  rw [List.mem_map]
  exact ⟨x, by simpa using h, rfl⟩
theorem Hp.St.root {w0 w : World} {M : List Nat} {g : HA} {A : List HA} {E : TypeId} {xs : List (Value × RC)} {sv : Value} {x : RC} (h : St w0 M w (g :: .row sv E 2 x.l.length (addrsV x.l) :: (A ++ rootRows E xs))) : St w0 M w (g :: (A ++ rootRows E (xs ++ [(sv, x)]))) := by
  rw [rootRows_add]
  exact St.perm h (.cons _ List.perm_middle.symm)
/-- What a table's bytes come to. -/
def tabOut (rT : TypeId) (aT : TypeId) (iT : TypeId) (B : List UInt8) (w : World) (e : Ending) (w' : World) : Prop :=
  if gOK B then ∃ rv lv xs, e = .returned (.tuple #[.agg (tabC (tabG false B) rv lv).toArray, .agg #[.int .i64 0, .int .i64 0]]) ∧ xs.map (·.2) = (tabG false B).recs ∧ St w [] w' (.row rv rT 44 (tabG false B).recs.length (recsV xs) :: .row lv iT 1 (tabG false B).lives.length (numsV (tabG false B).lives) :: rootRows aT xs)
  else e = .returned (.tuple #[.agg #[.int .i64 0, .slice none 0 0, .int .i64 0, .int .i64 0, .int .i64 0, .int .i64 0, .slice none 0 0], .agg #[.int .i64 (gErr B), .int .i64 (gAt B)]]) ∧ St w [] w' []
theorem gOK_no_short {B : List UInt8} (h : (tS9 B).short = true) : gOK B = false ∧ gErr B = 4 ∧ gAt B = B.length := by
  refine ⟨by unfold gOK; rw [h]; rfl, by unfold gErr; rw [if_pos h], by unfold gAt; rw [if_pos h]⟩
theorem gOK_no_end {B : List UInt8} (h : (tS9 B).short = false) (h2 : (tS9 B).pos < B.length) : gOK B = false ∧ gErr B = 4 ∧ gAt B = (tS9 B).pos := by
  refine ⟨?_, ?_, ?_⟩
  · unfold gOK
    have : ((tS9 B).pos == B.length) = false := by rw [beq_eq_false_iff_ne]; omega
    rw [this]; simp
  · unfold gErr; rw [if_neg (by rw [h]; decide), if_pos h2]
  · unfold gAt; rw [if_neg (by rw [h]; decide), if_pos h2]
theorem gOK_no_fit {B : List UInt8} (h : (tS9 B).short = false) (h2 : ¬ (tS9 B).pos < B.length) (h3 : (rootsG B && (tabG false B).ok) = false) : gOK B = false ∧ gErr B = 2 ∧ gAt B = 0 := by
  refine ⟨?_, ?_, ?_⟩
  · unfold gOK
    rw [Bool.and_assoc, h3]; simp
  · unfold gErr; rw [if_neg (by rw [h]; decide), if_neg h2, h3]; rfl
  · unfold gAt; rw [if_neg (by rw [h]; decide), if_neg h2]
theorem gOK_yes {B : List UInt8} (h : (tS9 B).short = false) (h2 : ¬ (tS9 B).pos < B.length) (h3 : rootsG B = true) (h4 : (tabG false B).ok = true) : gOK B = true ∧ (tabG false B).bytes = B := by
  have hp : (tS9 B).pos = B.length := by have := tS9_le B; omega
  refine ⟨?_, read_write h hp h3⟩
  unfold gOK
  rw [h, hp, h3, h4]
  simp
/-- A record that lies among the pieces is in memory. -/
theorem root_in {w0 w : World} {M : List Nat} {L : List HA} {E : TypeId} {x : Value × RC} (hst : St w0 M w L) (hm : HA.row x.1 E 2 x.2.l.length (addrsV x.2.l) ∈ L) (hS : L32 x.2.S) (hn : x.2.name.length ≤ 9223372036854775807) : RC.In w x := by
  obtain ⟨ao, c, e, h1, h2, h3⟩ := row_form hst hm
  have hr := Rd.row hst hm
  refine ⟨⟨hS, ao, _, c, e, ?_, rfl⟩, hn⟩
  rw [e] at hr
  exact hr
theorem name_le {B : List UInt8} (z : Bool) (s : GS) : (recG z B s).name.length ≤ 255 := by
  show (gotG z B (numG B 1 (rS1 B s)) (rS2 B s)).length ≤ 255
  have := numG1_lt B (rS1 B s)
  unfold gotG
  split
  · cases z
    · simp
    · simp; omega
  · rw [List.length_take]; omega
theorem recs_in {w0 w : World} {M : List Nat} {L : List HA} {rT E : TypeId} {rv : Value} {n : Nat} {B : List UInt8} {z : Bool} {s : GS} {xs : List (Value × RC)} (hst : St w0 M w L) (hr : HA.row rv rT 44 n (recsV xs) ∈ L) (hx : xs.map (·.2) = rcsG z B s n) (hm : ∀ x ∈ xs, HA.row x.1 E 2 x.2.l.length (addrsV x.2.l) ∈ L) : RecsIn w rv n xs := by
  refine ⟨Rd.row hst hr, by rw [← List.length_map (f := (·.2)), hx, length_rcsG], fun x hxm => ?_⟩
  have h2 : x.2 ∈ rcsG z B s n := by rw [← hx]; exact List.mem_map_of_mem hxm
  unfold rcsG at h2
  rw [List.mem_map] at h2
  obtain ⟨i, _, hi⟩ := h2
  refine root_in hst (hm x hxm) ?_ ?_
  · rw [← hi]; exact rec_S _ _ _
  · rw [← hi]; have := name_le z (B := B) (stG B s i); omega
end Go.Proofs.Ytkpkaoiafppimaa
namespace Go.Proofs.Ytkpkaoiafppimaa
set_option linter.unusedVariables false
set_option linter.unusedSimpArgs false
open Go.RowKit Hp
attribute [local irreducible] Go.Calls Go.wpList
set_option maxRecDepth 100000
set_option maxHeartbeats 8000000
attribute [local go_sem ↓] heldInt
theorem grec_any {w0 w : World} {R : List HA} {gr : Nat} (ao : Option Addr) (c : Nat) (B : List UInt8) (s : GS) (hS : St w0 [] w (.blk gr 62 (rdC (.slice ao B.length c) s) :: R)) (hB : Rd w0 (.slice ao B.length c) 1 B.length (bytesV B)) (hN : B.length ≤ 100000) (hp : s.pos ≤ B.length) :
    Calls Try.prog 33 #[.pointer (some ⟨gr, 0, none⟩)] w fun e w' => ∃ sv, e = .returned (.tuple #[.agg (cellsR (sv, recG false B s)).toArray, .bool (rootOk false B s)]) ∧ St w0 [] w' (.blk gr 62 (rdC (.slice ao B.length c) (recE B s)) :: .row sv 98 2 (recG false B s).l.length (addrsV (recG false B s).l) :: R) := by
  cases h : rOK (gotG false B 47 (rS5 B s)) with
  | true => exact grec_ok ao c B s hS hB hN hp h
  | false => exact grec_no ao c B s hS hB hN hp h
theorem row_slice {w0 w : World} {M : List Nat} (L1 : List HA) {L2 : List HA} {v : Value} {T : TypeId} {sz n : Nat} {xs : List Value} (h : St w0 M w (L1 ++ .row v T sz n xs :: L2)) : ∃ ao c, v = .slice ao n c ∧ n ≤ c ∧ c ≤ 9223372036854775807 := by
  obtain ⟨ao, c, e, h1, h2, _⟩ := row_form h (List.mem_append.2 (.inr (.head _)))
  exact ⟨ao, c, e, h1, h2⟩
instance dNRD : TyN Try.prog 62 3 := ⟨by kernel_rfl⟩
instance dZF : TyZ Try.prog 33 [.int .i64 0, .int .i64 0] := ⟨by kernel_rfl⟩
instance dBF : TyB Try.prog 33 [.int .i64 0, .int .i64 0] := ⟨by kernel_rfl⟩
theorem bldRD (ao : Option Addr) (n c : Nat) : Try.prog.built 62 [(0, .slice ao n c)] = some #[.slice ao n c, .int .i64 0, .bool false] := by kernel_rfl
theorem bldF2 (x y : Int) : Try.prog.built 33 [(0, .int .i64 x), (1, .int .i64 y)] = some #[.int .i64 x, .int .i64 y] := by kernel_rfl
theorem bldF1 (x : Int) : Try.prog.built 33 [(0, .int .i64 x)] = some #[.int .i64 x, .int .i64 0] := by kernel_rfl
theorem read12_any (ao : Option Addr) (c : Nat) (B : List UInt8) (w : World) (hB : Rd w (.slice ao B.length c) 1 B.length (bytesV B)) (hN : B.length ≤ 100000) :
    Calls Try.prog 10 #[(.slice ao B.length c)] w (tabOut 47 98 3 B w) := by
  have hst0 := St.refl w
  have HB := hid hB
  have HP0 := hid (show (GS.mk 0 false).pos ≤ B.length from Nat.zero_le _)
  have HP1 := hid (show (tS1 B).pos ≤ B.length from GS.go_pos (Nat.zero_le _))
  have HP2 := hid (tS2_le B)
  have HP3 := hid (show (tS3 B).pos ≤ B.length from st_le (tS2_le B) _)
  have HP4 := hid (show (tS4 B).pos ≤ B.length from GS.go_pos HP3.out)
  have HP5 := hid (show (tS5 B).pos ≤ B.length from GS.go_pos HP4.out)
  have HP6 := hid (show (tS6 B).pos ≤ B.length from GS.go_pos HP5.out)
  have HP7 := hid (show (tS7 B).pos ≤ B.length from GS.go_pos HP6.out)
  have HP8 := hid (tS8_le B)
  clear hB
  go_enter Try.func10, Try.ntmps10
  go_wp2_with (first | go_big_skip | go_big_guard | (refine wl_alloc hst0 rfl rfl ?_; intro g2 w1 hA1; clear hst0) | (refine wl_alloc hA1 rfl rfl ?_; intro g3 w1 hA2; clear hA1) | (refine wl_buildX (cs := [(.slice ao B.length c), .int .i64 0, .bool false]) [(0, (.slice ao B.length c))] rfl rfl (by exact rfl) (bldRD _ _ _) ?_) | (refine wl_boxA hA2 rfl rfl rfl ?_; intro gr w1 h4; have hA3 : St w [] w1 [.blk gr 62 (rdC (.slice ao B.length c) ⟨0, false⟩), .blk g3 33 [.int .i64 0, .int .i64 0], .blk g2 30 tab0] := h4; clear h4 hA2) | (refine wl_alloc hA3 rfl rfl ?_; intro g5 w1 hA4; clear hA3) | (refine wl_alloc hA4 rfl rfl ?_; intro g6 w1 hA5; clear hA4) | (refine wl_alloc hA5 rfl rfl ?_; intro g7 w1 hA6; clear hA5) | (refine wl_store [_] hA6 rfl rfl rfl (v := .int .i64 0) rfl rfl rfl (by show (0 : Nat) + 1 ≤ 1; decide) ?_; intro w1 h4; have hA7 : St w [] w1 [.blk g7 3 [.int .i64 0], .blk g6 3 [.int .i64 0], .blk g5 30 [.int .i64 0, .slice none 0 0, .int .i64 0, .int .i64 0, .int .i64 0, .int .i64 0, .slice none 0 0], .blk gr 62 (rdC (.slice ao B.length c) ⟨0, false⟩), .blk g3 33 [.int .i64 0, .int .i64 0], .blk g2 30 tab0] := h4; clear h4 hA6) | (refine wl_store [] hA7 rfl rfl rfl (v := .int .i64 0) rfl rfl rfl (by show (0 : Nat) + 1 ≤ 1; decide) ?_; intro w1 h4; have hA8 : St w [] w1 [.blk g7 3 [.int .i64 0], .blk g6 3 [.int .i64 0], .blk g5 30 [.int .i64 0, .slice none 0 0, .int .i64 0, .int .i64 0, .int .i64 0, .int .i64 0, .slice none 0 0], .blk gr 62 (rdC (.slice ao B.length c) ⟨0, false⟩), .blk g3 33 [.int .i64 0, .int .i64 0], .blk g2 30 tab0] := h4; clear h4 hA7) | (go_at_call 32; refine (gnum_any (gx := g5) (off := 0) ao B.length c B ⟨0, false⟩ 4 4 rfl (St.front (L1 := [_, _, _]) (St.front (L1 := [_, _]) hA8)) (by show (0 : Nat) + 1 ≤ 7; decide) HB.out rfl hN (by decide) HP0.out).mono ?_; rintro _ w9 ⟨rfl, h4⟩; have hA9 : St w [] w9 (.blk gr 62 (rdC (.slice ao B.length c) (tS1 B)) :: .blk g5 30 [.int .i64 (numG B 4 ⟨0, false⟩ : Nat), .slice none 0 0, .int .i64 0, .int .i64 0, .int .i64 0, .int .i64 0, .slice none 0 0] :: .blk g7 3 [.int .i64 0] :: .blk g6 3 [.int .i64 0] :: .blk g3 33 [.int .i64 0, .int .i64 0] :: .blk g2 30 tab0 :: []) := h4; clear h4 hA8) | (go_at_call 32; refine (gnum_any (gx := g6) (off := 0) ao B.length c B (tS1 B) 1 1 rfl (St.front (L1 := [_]) (St.front (L1 := [_, _, _]) hA9)) (by show (0 : Nat) + 1 ≤ 1; decide) HB.out rfl hN (by decide) HP1.out).mono ?_; rintro _ w9 ⟨rfl, h4⟩; have hA10 : St w [] w9 (.blk gr 62 (rdC (.slice ao B.length c) (tS2 B)) :: .blk g6 3 [.int .i64 (numG B 1 (tS1 B) : Nat)] :: .blk g5 30 [.int .i64 (numG B 4 ⟨0, false⟩ : Nat), .slice none 0 0, .int .i64 0, .int .i64 0, .int .i64 0, .int .i64 0, .slice none 0 0] :: .blk g7 3 [.int .i64 0] :: .blk g3 33 [.int .i64 0, .int .i64 0] :: .blk g2 30 tab0 :: []) := h4; clear h4 hA9) | (refine wl_loadE rfl rfl rfl ?_; refine ⟨_, Loads.at [_] hA10 rfl, ?_⟩))
  have hB0 := St.nilRow 47 44 hA10
  have hB1 : St w [] w9 (.blk gr 62 (rdC (.slice ao B.length c) (tS2 B)) :: .blk g5 30 [.int .i64 (numG B 4 ⟨0, false⟩ : Nat), .slice none 0 0, .int .i64 0, .int .i64 0, .int .i64 0, .int .i64 0, .slice none 0 0] :: .row (.slice none 0 0) 47 44 0 [] :: .blk g6 3 [.int .i64 (numG B 1 (tS1 B) : Nat)] :: .blk g7 3 [.int .i64 0] :: .blk g3 33 [.int .i64 0, .int .i64 0] :: .blk g2 30 tab0 :: []) := (St.front (L1 := [_, _, _, _, _, _]) (St.front (L1 := [_, _, _, _, _, _]) (St.front (L1 := [_, _, _, _]) (St.front (L1 := [_, _, _, _, _]) (St.front (L1 := [_, _, _, _, _, _]) (St.front (L1 := [_, _, _, _, _, _]) (St.front (L1 := [_, _, _, _, _, _]) hB0)))))))
  clear hA10 hB0
  obtain ⟨many, hmany⟩ : ∃ m, m = tMany B := ⟨_, rfl⟩
  have HM := hid hmany
  have hm9 : numG B 1 (tS1 B) = many := hmany.symm
  have HM9 := hid hm9
  have hm255 : many ≤ 255 := by rw [hmany]; have := numG1_lt B (tS1 B); unfold tMany; omega
  rw [hm9] at hB1 ⊢
  clear hmany hm9
  go_loopw [8, 22] (fun f i wr => ∃ (j : Nat) (rv : Value) (xs : List (Value × RC)), j ≤ many ∧ i = .int .i64 (j : Int) ∧ f = .bool (oksG false B (tS2 B) j) ∧ xs.map (·.2) = rcsG false B (tS2 B) j ∧ St w [] wr (.blk gr 62 (rdC (.slice ao B.length c) (stG B (tS2 B) j)) :: .blk g5 30 [.int .i64 (numG B 4 ⟨0, false⟩ : Nat), rv, .int .i64 0, .int .i64 0, .int .i64 0, .int .i64 0, .slice none 0 0] :: .row rv 47 44 j (recsV xs) :: .blk g6 3 [.int .i64 (many : Nat)] :: .blk g7 3 [.int .i64 0] :: .blk g3 33 [.int .i64 0, .int .i64 0] :: .blk g2 30 tab0 :: rootRows 98 xs)) (fun _ i _ => many - (intOf i).toNat)
  case atStart => exact ⟨0, _, [], Nat.zero_le _, rfl, rfl, rfl, hB1⟩
  case round =>
    clear hB1
    obtain ⟨j, rv, xs, hj, rfl, rfl, hx, hst⟩ := hrel
    have HX := hid hx
    clear hx
    obtain ⟨f, hf⟩ : ∃ f, f = oksG false B (tS2 B) j := ⟨_, rfl⟩
    rw [← hf]
    have HF := hid hf.symm
    clear hf
    by_cases hlt : j < many
    · have e1 : decide ((j : Int) < (many : Int)) = true := decide_eq_true (by omega)
      have z1 : IntKind.i64.wrap ((j : Int) + 1) = (j : Int) + 1 := IntWalk.i64_in _ (by omega)
      have HL44 := hid (show ∀ sv : Value, (cellsR (sv, recG false B (stG B (tS2 B) j))).length = 44 from fun _ => cellsR_len (rec_S _ _ _))
      cases f
      · skip
        go_wp2_with (first | go_big_skip | go_big_guard | (go_at_call 33; refine (grec_any ao c B (stG B (tS2 B) j) hst HB.out hN (st_le HP2.out j)).mono ?_; rintro _ w9 ⟨sv, rfl, h4⟩; have hD1 := Hp.St.root (A := [_, _, _, _, _, _]) h4; have HINR := hid (root_in (x := (sv, recG false B (stG B (tS2 B) j))) h4 (.tail _ (.head _)) (rec_S _ _ _) (by have := name_le (B := B) false (stG B (tS2 B) j); exact Nat.le_trans this (by decide))); clear h4 hst) | (refine wl_alloc hD1 rfl rfl ?_; intro g9 w1 hD2; clear hD1) | (refine wl_storeA [] hD2 rfl rfl rfl rfl (HL44.out _) (cellsR_ones HINR.out) rfl ?_; intro w1 hD3; clear hD2) | (refine wl_loadE rfl rfl rfl ?_; first | refine ⟨_, Loads.atA (cellsR (sv, recG false B (stG B (tS2 B) j))) [] hD3 (HL44.out _) (cellsR_all _), ?_⟩ | refine ⟨_, Loads.at [_, _] hD3 rfl, ?_⟩) | (apply wl_bsX [.agg (List.toArray (cellsR (sv, recG false B (stG B (tS2 B) j))))] (cellsR (sv, recG false B (stG B (tS2 B) j))) hD3; rfl; rfl; exact rfl; exact (List.append_nil _); infer_instance; infer_instance; (show (((List.toArray (cellsR (sv, recG false B (stG B (tS2 B) j)))).size == 44) && true) = true; rw [List.size_toArray, HL44.out _]; rfl); rfl; rfl; intro gb w5 hD4; clear hD3) | (apply wl_appX (m := 1) (ys := cellsR (sv, recG false B (stG B (tS2 B) j))) [_, _, _, _] hD4; rfl; rfl; exact rfl; exact rfl; infer_instance; infer_instance; infer_instance; exact Rd.blk (n := 1) hD4 (.head _) (Nat.le_refl _) (by decide) (by rw [HL44.out _]) (by rw [List.drop_zero, List.take_length]); exact cellsR_ones HINR.out; exact ⟨by decide, by unfold maxLen; omega, by omega⟩; intro rv2 w6 hD5 _; obtain ⟨ro, rc, rfl, _, _⟩ := row_slice [_, _, _, _] hD5; clear hD4) | (refine wl_store [_, _, _] hD5 rfl rfl rfl (off := 1) (v := .slice _ _ _) rfl rfl rfl (by show (1 : Nat) + 1 ≤ 7; decide) ?_; intro w7 hD6; clear hD5))
        go_roundw
        case rel =>
          have hD7 : St w [] w7 (.blk gr 62 (rdC (.slice ao B.length c) (stG B (tS2 B) (j + 1))) :: .blk g5 30 [.int .i64 (numG B 4 ⟨0, false⟩ : Nat), .slice ro (j + 1) rc, .int .i64 0, .int .i64 0, .int .i64 0, .int .i64 0, .slice none 0 0] :: .row (.slice ro (j + 1) rc) 47 44 (j + 1) (recsV (xs ++ [(sv, recG false B (stG B (tS2 B) j))])) :: .blk g6 3 [.int .i64 (many : Nat)] :: .blk g7 3 [.int .i64 0] :: .blk g3 33 [.int .i64 0, .int .i64 0] :: .blk g2 30 tab0 :: rootRows 98 (xs ++ [(sv, recG false B (stG B (tS2 B) j))])) := by
            rw [recsV_append, show recsV [(sv, recG false B (stG B (tS2 B) j))] = cellsR (sv, recG false B (stG B (tS2 B) j)) from List.append_nil _]
            exact St.sub hD6 (.cons _ (.cons _ (List.Sublist.refl _)))
          refine ⟨j + 1, .slice ro (j + 1) rc, xs ++ [(sv, recG false B (stG B (tS2 B) j))], by omega, rfl, ?_, ?_, hD7⟩
          · rw [oksG_succ, HF.out]; rfl
          · rw [List.map_append, HX.out, rcsG_succ]; rfl
        case measure => simp [intOf]; omega
      · skip
        go_wp2_with (first | go_big_skip | go_big_guard | (go_at_call 33; refine (grec_any ao c B (stG B (tS2 B) j) hst HB.out hN (st_le HP2.out j)).mono ?_; rintro _ w9 ⟨sv, rfl, h4⟩; have hD1 := Hp.St.root (A := [_, _, _, _, _, _]) h4; have HINR := hid (root_in (x := (sv, recG false B (stG B (tS2 B) j))) h4 (.tail _ (.head _)) (rec_S _ _ _) (by have := name_le (B := B) false (stG B (tS2 B) j); exact Nat.le_trans this (by decide))); clear h4 hst) | (refine wl_alloc hD1 rfl rfl ?_; intro g9 w1 hD2; clear hD1) | (refine wl_storeA [] hD2 rfl rfl rfl rfl (HL44.out _) (cellsR_ones HINR.out) rfl ?_; intro w1 hD3; clear hD2) | (refine wl_loadE rfl rfl rfl ?_; first | refine ⟨_, Loads.atA (cellsR (sv, recG false B (stG B (tS2 B) j))) [] hD3 (HL44.out _) (cellsR_all _), ?_⟩ | refine ⟨_, Loads.at [_, _] hD3 rfl, ?_⟩) | (apply wl_bsX [.agg (List.toArray (cellsR (sv, recG false B (stG B (tS2 B) j))))] (cellsR (sv, recG false B (stG B (tS2 B) j))) hD3; rfl; rfl; exact rfl; exact (List.append_nil _); infer_instance; infer_instance; (show (((List.toArray (cellsR (sv, recG false B (stG B (tS2 B) j)))).size == 44) && true) = true; rw [List.size_toArray, HL44.out _]; rfl); rfl; rfl; intro gb w5 hD4; clear hD3) | (apply wl_appX (m := 1) (ys := cellsR (sv, recG false B (stG B (tS2 B) j))) [_, _, _, _] hD4; rfl; rfl; exact rfl; exact rfl; infer_instance; infer_instance; infer_instance; exact Rd.blk (n := 1) hD4 (.head _) (Nat.le_refl _) (by decide) (by rw [HL44.out _]) (by rw [List.drop_zero, List.take_length]); exact cellsR_ones HINR.out; exact ⟨by decide, by unfold maxLen; omega, by omega⟩; intro rv2 w6 hD5 _; obtain ⟨ro, rc, rfl, _, _⟩ := row_slice [_, _, _, _] hD5; clear hD4) | (refine wl_store [_, _, _] hD5 rfl rfl rfl (off := 1) (v := .slice _ _ _) rfl rfl rfl (by show (1 : Nat) + 1 ≤ 7; decide) ?_; intro w7 hD6; clear hD5))
        go_roundw
        case rel =>
          have hD7 : St w [] w7 (.blk gr 62 (rdC (.slice ao B.length c) (stG B (tS2 B) (j + 1))) :: .blk g5 30 [.int .i64 (numG B 4 ⟨0, false⟩ : Nat), .slice ro (j + 1) rc, .int .i64 0, .int .i64 0, .int .i64 0, .int .i64 0, .slice none 0 0] :: .row (.slice ro (j + 1) rc) 47 44 (j + 1) (recsV (xs ++ [(sv, recG false B (stG B (tS2 B) j))])) :: .blk g6 3 [.int .i64 (many : Nat)] :: .blk g7 3 [.int .i64 0] :: .blk g3 33 [.int .i64 0, .int .i64 0] :: .blk g2 30 tab0 :: rootRows 98 (xs ++ [(sv, recG false B (stG B (tS2 B) j))])) := by
            rw [recsV_append, show recsV [(sv, recG false B (stG B (tS2 B) j))] = cellsR (sv, recG false B (stG B (tS2 B) j)) from List.append_nil _]
            exact St.sub hD6 (.cons _ (.cons _ (List.Sublist.refl _)))
          refine ⟨j + 1, .slice ro (j + 1) rc, xs ++ [(sv, recG false B (stG B (tS2 B) j))], by omega, rfl, ?_, ?_, hD7⟩
          · rw [oksG_succ, HF.out]; rfl
          · rw [List.map_append, HX.out, rcsG_succ]; rfl
        case measure => simp [intOf]; omega
    · have e1 : decide ((j : Int) < (many : Int)) = false := decide_eq_false (by omega)
      obtain rfl : j = many := by omega
      have HXT := hid (show xs.map (·.2) = (tabG false B).recs by rw [HX.out, HM.out]; rfl)
      have HFR := hid (show rootsG B = f by rw [← HF.out, HM.out]; rfl)
      obtain ⟨ro, rc, rfl, _, _⟩ := row_slice [_, _] hst
      have hC0 : St w [] wr (.blk gr 62 (rdC (.slice ao B.length c) (tS3 B)) :: .blk g5 30 [.int .i64 (numG B 4 ⟨0, false⟩ : Nat), .slice ro j rc, .int .i64 0, .int .i64 0, .int .i64 0, .int .i64 0, .slice none 0 0] :: .row (.slice ro j rc) 47 44 j (recsV xs) :: .blk g6 3 [.int .i64 (j : Nat)] :: .blk g7 3 [.int .i64 0] :: .blk g3 33 [.int .i64 0, .int .i64 0] :: .blk g2 30 tab0 :: rootRows 98 xs) := by rw [show tS3 B = stG B (tS2 B) j by unfold tS3; rw [HM.out]]; exact hst
      clear hst
      go_wp2_with (first | go_big_skip | go_big_guard | (go_at_call 32; refine (gnum_any (gx := g5) (off := 2) ao B.length c B (tS3 B) 1 1 rfl (St.front (L1 := [_]) (St.front (L1 := [_]) hC0)) (by show (2 : Nat) + 1 ≤ 7; decide) HB.out rfl hN (by decide) HP3.out).mono ?_; rintro _ w9 ⟨rfl, h4⟩; have hC1 : St w [] w9 (.blk gr 62 (rdC (.slice ao B.length c) (tS4 B)) :: .blk g5 30 [.int .i64 (numG B 4 ⟨0, false⟩ : Nat), .slice ro j rc, .int .i64 (numG B 1 (tS3 B) : Nat), .int .i64 0, .int .i64 0, .int .i64 0, .slice none 0 0] :: .row (.slice ro j rc) 47 44 j (recsV xs) :: .blk g6 3 [.int .i64 (j : Nat)] :: .blk g7 3 [.int .i64 0] :: .blk g3 33 [.int .i64 0, .int .i64 0] :: .blk g2 30 tab0 :: rootRows 98 xs) := h4; clear h4 hC0) | (go_at_call 32; refine (gnum_any (gx := g5) (off := 3) ao B.length c B (tS4 B) 1 1 rfl (St.front (L1 := [_]) (St.front (L1 := [_]) hC1)) (by show (3 : Nat) + 1 ≤ 7; decide) HB.out rfl hN (by decide) HP4.out).mono ?_; rintro _ w9 ⟨rfl, h4⟩; have hC2 : St w [] w9 (.blk gr 62 (rdC (.slice ao B.length c) (tS5 B)) :: .blk g5 30 [.int .i64 (numG B 4 ⟨0, false⟩ : Nat), .slice ro j rc, .int .i64 (numG B 1 (tS3 B) : Nat), .int .i64 (numG B 1 (tS4 B) : Nat), .int .i64 0, .int .i64 0, .slice none 0 0] :: .row (.slice ro j rc) 47 44 j (recsV xs) :: .blk g6 3 [.int .i64 (j : Nat)] :: .blk g7 3 [.int .i64 0] :: .blk g3 33 [.int .i64 0, .int .i64 0] :: .blk g2 30 tab0 :: rootRows 98 xs) := h4; clear h4 hC1) | (go_at_call 32; refine (gnum_any (gx := g5) (off := 4) ao B.length c B (tS5 B) 4 4 rfl (St.front (L1 := [_]) (St.front (L1 := [_]) hC2)) (by show (4 : Nat) + 1 ≤ 7; decide) HB.out rfl hN (by decide) HP5.out).mono ?_; rintro _ w9 ⟨rfl, h4⟩; have hC3 : St w [] w9 (.blk gr 62 (rdC (.slice ao B.length c) (tS6 B)) :: .blk g5 30 [.int .i64 (numG B 4 ⟨0, false⟩ : Nat), .slice ro j rc, .int .i64 (numG B 1 (tS3 B) : Nat), .int .i64 (numG B 1 (tS4 B) : Nat), .int .i64 (numG B 4 (tS5 B) : Nat), .int .i64 0, .slice none 0 0] :: .row (.slice ro j rc) 47 44 j (recsV xs) :: .blk g6 3 [.int .i64 (j : Nat)] :: .blk g7 3 [.int .i64 0] :: .blk g3 33 [.int .i64 0, .int .i64 0] :: .blk g2 30 tab0 :: rootRows 98 xs) := h4; clear h4 hC2) | (go_at_call 32; refine (gnum_any (gx := g5) (off := 5) ao B.length c B (tS6 B) 4 4 rfl (St.front (L1 := [_]) (St.front (L1 := [_]) hC3)) (by show (5 : Nat) + 1 ≤ 7; decide) HB.out rfl hN (by decide) HP6.out).mono ?_; rintro _ w9 ⟨rfl, h4⟩; have hC4 : St w [] w9 (.blk gr 62 (rdC (.slice ao B.length c) (tS7 B)) :: .blk g5 30 [.int .i64 (numG B 4 ⟨0, false⟩ : Nat), .slice ro j rc, .int .i64 (numG B 1 (tS3 B) : Nat), .int .i64 (numG B 1 (tS4 B) : Nat), .int .i64 (numG B 4 (tS5 B) : Nat), .int .i64 (numG B 4 (tS6 B) : Nat), .slice none 0 0] :: .row (.slice ro j rc) 47 44 j (recsV xs) :: .blk g6 3 [.int .i64 (j : Nat)] :: .blk g7 3 [.int .i64 0] :: .blk g3 33 [.int .i64 0, .int .i64 0] :: .blk g2 30 tab0 :: rootRows 98 xs) := h4; clear h4 hC3) | (go_at_call 32; refine (gnum_any (gx := g7) (off := 0) ao B.length c B (tS7 B) 1 1 rfl (St.front (L1 := [_]) (St.front (L1 := [_, _, _, _]) hC4)) (by show (0 : Nat) + 1 ≤ 1; decide) HB.out rfl hN (by decide) HP7.out).mono ?_; rintro _ w9 ⟨rfl, h4⟩; have hC5 : St w [] w9 (.blk gr 62 (rdC (.slice ao B.length c) (tS8 B)) :: .blk g7 3 [.int .i64 (numG B 1 (tS7 B) : Nat)] :: .blk g5 30 [.int .i64 (numG B 4 ⟨0, false⟩ : Nat), .slice ro j rc, .int .i64 (numG B 1 (tS3 B) : Nat), .int .i64 (numG B 1 (tS4 B) : Nat), .int .i64 (numG B 4 (tS5 B) : Nat), .int .i64 (numG B 4 (tS6 B) : Nat), .slice none 0 0] :: .row (.slice ro j rc) 47 44 j (recsV xs) :: .blk g6 3 [.int .i64 (j : Nat)] :: .blk g3 33 [.int .i64 0, .int .i64 0] :: .blk g2 30 tab0 :: rootRows 98 xs) := h4; clear h4 hC4) | (refine wl_loadE rfl rfl rfl ?_; refine ⟨_, Loads.at [_] hC5 rfl, ?_⟩))
      have hD0 := St.nilRow 3 1 hC5
      have hD1 : St w [] w9 (.blk gr 62 (rdC (.slice ao B.length c) (tS8 B)) :: .blk g5 30 [.int .i64 (numG B 4 ⟨0, false⟩ : Nat), .slice ro j rc, .int .i64 (numG B 1 (tS3 B) : Nat), .int .i64 (numG B 1 (tS4 B) : Nat), .int .i64 (numG B 4 (tS5 B) : Nat), .int .i64 (numG B 4 (tS6 B) : Nat), .slice none 0 0] :: .row (.slice ro j rc) 47 44 j (recsV xs) :: .row (.slice none 0 0) 3 1 0 [] :: .blk g6 3 [.int .i64 (j : Nat)] :: .blk g7 3 [.int .i64 (numG B 1 (tS7 B) : Nat)] :: .blk g3 33 [.int .i64 0, .int .i64 0] :: .blk g2 30 tab0 :: rootRows 98 xs) := (St.front (L1 := [_, _, _, _, _, _, _]) (St.front (L1 := [_, _, _, _, _, _, _]) (St.front (L1 := [_, _, _, _, _, _, _]) (St.front (L1 := [_, _, _, _]) (St.front (L1 := [_, _, _, _, _, _, _]) (St.front (L1 := [_, _, _, _]) (St.front (L1 := [_, _, _, _, _, _, _]) (St.front (L1 := [_, _, _, _, _, _, _]) hD0))))))))
      clear hC5 hD0
      obtain ⟨nl, hnl⟩ : ∃ m, m = tLives B := ⟨_, rfl⟩
      have HNL := hid hnl
      have hl9 : numG B 1 (tS7 B) = nl := hnl.symm
      have hl255 : nl ≤ 255 := by rw [hnl]; have := numG1_lt B (tS7 B); unfold tLives; omega
      rw [hl9] at hD1 ⊢
      clear hnl hl9
      go_loopw [55] (fun i wr => ∃ (k : Nat) (lv : Value), k ≤ nl ∧ i = .int .i64 (k : Int) ∧ St w [] wr (.blk gr 62 (rdC (.slice ao B.length c) (lvS B (tS8 B) k)) :: .blk g5 30 [.int .i64 (numG B 4 ⟨0, false⟩ : Nat), .slice ro j rc, .int .i64 (numG B 1 (tS3 B) : Nat), .int .i64 (numG B 1 (tS4 B) : Nat), .int .i64 (numG B 4 (tS5 B) : Nat), .int .i64 (numG B 4 (tS6 B) : Nat), lv] :: .row (.slice ro j rc) 47 44 j (recsV xs) :: .row (lv) 3 1 k (numsV (lvsG B (tS8 B) k)) :: .blk g6 3 [.int .i64 (j : Nat)] :: .blk g7 3 [.int .i64 (nl : Nat)] :: .blk g3 33 [.int .i64 0, .int .i64 0] :: .blk g2 30 tab0 :: rootRows 98 xs)) (fun i _ => nl - (intOf i).toNat)
      case atStart => exact ⟨0, _, Nat.zero_le _, rfl, hD1⟩
      case round =>
        clear hD1
        obtain ⟨k, lv, hk, rfl, hst⟩ := hrel
        by_cases hltk : k < nl
        · have e2 : decide ((k : Int) < (nl : Int)) = true := decide_eq_true (by omega)
          have z2 : IntKind.i64.wrap ((k : Int) + 1) = (k : Int) + 1 := IntWalk.i64_in _ (by omega)
          go_wp2_with (first | go_big_skip | go_big_guard | (refine wl_alloc hst rfl rfl ?_; intro g11 w1 hE1; clear hst) | (refine wl_store [] hE1 rfl rfl rfl (v := .int .i64 0) rfl rfl rfl (by show (0 : Nat) + 1 ≤ 1; decide) ?_; intro w1 h4; have hE2 : St w [] w1 (.blk g11 3 [.int .i64 0] :: .blk gr 62 (rdC (.slice ao B.length c) (lvS B (tS8 B) k)) :: .blk g5 30 [.int .i64 (numG B 4 ⟨0, false⟩ : Nat), .slice ro j rc, .int .i64 (numG B 1 (tS3 B) : Nat), .int .i64 (numG B 1 (tS4 B) : Nat), .int .i64 (numG B 4 (tS5 B) : Nat), .int .i64 (numG B 4 (tS6 B) : Nat), lv] :: .row (.slice ro j rc) 47 44 j (recsV xs) :: .row (lv) 3 1 k (numsV (lvsG B (tS8 B) k)) :: .blk g6 3 [.int .i64 (j : Nat)] :: .blk g7 3 [.int .i64 (nl : Nat)] :: .blk g3 33 [.int .i64 0, .int .i64 0] :: .blk g2 30 tab0 :: rootRows 98 xs) := h4; clear h4 hE1) | (go_at_call 32; refine (gnum_any (gx := g11) (off := 0) ao B.length c B (lvS B (tS8 B) k) 4 4 rfl (St.front (L1 := [_]) hE2) (by decide) HB.out rfl hN (by decide) (lv_le HP8.out k)).mono ?_; rintro _ w9 ⟨rfl, h4⟩; have hE3 : St w [] w9 (.blk gr 62 (rdC (.slice ao B.length c) (lvS B (tS8 B) (k + 1))) :: .blk g11 3 [.int .i64 (numG B 4 (lvS B (tS8 B) k) : Nat)] :: .blk g5 30 [.int .i64 (numG B 4 ⟨0, false⟩ : Nat), .slice ro j rc, .int .i64 (numG B 1 (tS3 B) : Nat), .int .i64 (numG B 1 (tS4 B) : Nat), .int .i64 (numG B 4 (tS5 B) : Nat), .int .i64 (numG B 4 (tS6 B) : Nat), lv] :: .row (.slice ro j rc) 47 44 j (recsV xs) :: .row (lv) 3 1 k (numsV (lvsG B (tS8 B) k)) :: .blk g6 3 [.int .i64 (j : Nat)] :: .blk g7 3 [.int .i64 (nl : Nat)] :: .blk g3 33 [.int .i64 0, .int .i64 0] :: .blk g2 30 tab0 :: rootRows 98 xs) := h4; clear h4 hE2) | (refine wl_loadE rfl rfl rfl ?_; first | refine ⟨_, Loads.at [_, _] hE3 rfl, ?_⟩ | refine ⟨_, Loads.at [_] hE3 rfl, ?_⟩) | (apply wl_bsX [.int .i64 (numG B 4 (lvS B (tS8 B) k) : Nat)] [.int .i64 (numG B 4 (lvS B (tS8 B) k) : Nat)] hE3; rfl; rfl; exact rfl; exact rfl; infer_instance; infer_instance; rfl; rfl; rfl; intro gb w5 hE4; clear hE3) | (apply wl_appX (m := 1) (ys := [.int .i64 (numG B 4 (lvS B (tS8 B) k) : Nat)]) [_, _, _, _, _] hE4; rfl; rfl; exact rfl; exact rfl; infer_instance; infer_instance; infer_instance; exact (Rd.blk0 hE4 rfl (by decide)); exact rfl; exact ⟨by decide, by unfold maxLen; omega, by omega⟩; intro lv2 w6 hE5 _; obtain ⟨lo, lc, rfl, _, _⟩ := row_slice [_, _, _, _, _] hE5; clear hE4) | (refine wl_store [_, _, _] hE5 rfl rfl rfl (off := 6) (v := .slice _ _ _) rfl rfl rfl (by show (6 : Nat) + 1 ≤ 7; decide) ?_; intro w7 hE6; clear hE5))
          go_roundw
          case rel =>
            have hE7 : St w [] w7 (.blk gr 62 (rdC (.slice ao B.length c) (lvS B (tS8 B) (k + 1))) :: .blk g5 30 [.int .i64 (numG B 4 ⟨0, false⟩ : Nat), .slice ro j rc, .int .i64 (numG B 1 (tS3 B) : Nat), .int .i64 (numG B 1 (tS4 B) : Nat), .int .i64 (numG B 4 (tS5 B) : Nat), .int .i64 (numG B 4 (tS6 B) : Nat), .slice lo (k + 1) lc] :: .row (.slice ro j rc) 47 44 j (recsV xs) :: .row (.slice lo (k + 1) lc) 3 1 (k + 1) (numsV (lvsG B (tS8 B) (k + 1))) :: .blk g6 3 [.int .i64 (j : Nat)] :: .blk g7 3 [.int .i64 (nl : Nat)] :: .blk g3 33 [.int .i64 0, .int .i64 0] :: .blk g2 30 tab0 :: rootRows 98 xs) := by
              rw [lvsG_succ, numsV_append]
              exact St.sub hE6 (.cons _ (.cons_cons _ (.cons _ (List.Sublist.refl _))))
            exact ⟨k + 1, .slice lo (k + 1) lc, by omega, rfl, hE7⟩
          case measure => simp [intOf]; omega
        · have e2 : decide ((k : Int) < (nl : Int)) = false := decide_eq_false (by omega)
          obtain rfl : k = nl := by omega
          obtain ⟨lo, lc, rfl, _, _⟩ := row_slice [_, _, _] hst
          obtain ⟨⟨p, sh⟩, h9⟩ : ∃ q : GS, tS9 B = q := ⟨_, rfl⟩
          have H9 := hid h9
          have hX : St w [] wr (.blk gr 62 [(.slice ao B.length c), .int .i64 (p : Int), .bool sh] :: .blk g5 30 [.int .i64 (numG B 4 ⟨0, false⟩ : Nat), .slice ro j rc, .int .i64 (numG B 1 (tS3 B) : Nat), .int .i64 (numG B 1 (tS4 B) : Nat), .int .i64 (numG B 4 (tS5 B) : Nat), .int .i64 (numG B 4 (tS6 B) : Nat), .slice lo k lc] :: .row (.slice ro j rc) 47 44 j (recsV xs) :: .row (.slice lo k lc) 3 1 k (numsV (lvsG B (tS8 B) k)) :: .blk g6 3 [.int .i64 (j : Nat)] :: .blk g7 3 [.int .i64 (k : Nat)] :: .blk g3 33 [.int .i64 0, .int .i64 0] :: .blk g2 30 tab0 :: rootRows 98 xs) := by
            have e9 : lvS B (tS8 B) k = ⟨p, sh⟩ := by rw [← h9, HNL.out]; rfl
            rw [e9] at hst
            exact hst
          clear hst h9
          have HLT := hid (show (tabG false B).lives = lvsG B (tS8 B) k by rw [HNL.out]; rfl)
          have HLN := hid (show (tabG false B).lives.length = k by rw [HLT.out, length_lvsG])
          cases sh
          · by_cases hpl : p < B.length
            · skip
              have d3 : decide ((p : Int) < (B.length : Int)) = true := decide_eq_true (by omega)
              go_wp2_with (first | go_big_skip | go_big_guard | (refine wl_loadE rfl rfl rfl ?_; refine ⟨_, Loads.at [] hX rfl, ?_⟩))
              have hY := hX.drew
              clear hX
              refine wp_region_held_drew (S := (fun w' => (loadVarH 3 ⟨gr, 1, none⟩).run Try.prog w' = .ok (.int .i64 (p : Int)) w')) (by kernel_rfl) (by exact ldS [] hY rfl) (fun hHeld => ?_)
              refine tk 0 83 ?_
              (try simp only [Act.put, List.setIfInBounds_toArray, List.set_cons_zero, List.set_cons_succ])
              refine tk 1 84 ?_
              (try simp only [Act.put, List.setIfInBounds_toArray, List.set_cons_zero, List.set_cons_succ])
              refine tk 2 85 ?_
              (try simp only [Act.put, List.setIfInBounds_toArray, List.set_cons_zero, List.set_cons_succ])
              refine tk 3 86 ?_
              (try simp only [Act.put, List.setIfInBounds_toArray, List.set_cons_zero, List.set_cons_succ])
              refine tk 4 87 ?_
              (try simp only [Act.put, List.setIfInBounds_toArray, List.set_cons_zero, List.set_cons_succ])
              refine wpAnyH_ready (rs := [5, 6]) (by kernel_rfl) (by simp) ?_
              refine (AllReadyH.cons (o := ⟨some 88, _, _, _, _, _⟩) rfl (fun K hK => ?_) (AllReadyH.cons (o := ⟨none, _, _, _, _, _⟩) rfl (fun K hK => ?_) AllReadyH.nil))
              · rw [if_pos (by rfl)]
                refine ow_of_wl (ops := #[]) (by rfl) ?_
                refine wl_buildX (cs := [.int .i64 4, .int .i64 (p : Int)]) [(0, .int .i64 4), (1, .int .i64 (p : Int))] rfl rfl (by exact rfl) (bldF2 _ _) ?_
                refine q0_nil ?_
                refine hK.out _ _ ?_ (fun hHeld => ?_)
                · exact ldS [] hY rfl
                clear hK K
                (try simp only [Act.put, List.setIfInBounds_toArray, List.set_cons_zero, List.set_cons_succ])
                refine wpAnyH_ready (rs := [6]) (by kernel_rfl) (by simp) ?_
                refine (AllReadyH.cons (o := ⟨none, _, _, _, _, _⟩) rfl (fun K hK => ?_) AllReadyH.nil)
                rw [if_pos (by rfl)]
                refine ow_of_wl (ops := #[]) (by rfl) ?_
                refine wl_storeA [_, _, _, _, _, _, _] hY rfl rfl rfl rfl rfl rfl rfl ?_
                intro w7 hX2
                refine q0_nil ?_
                refine hK.out _ _ ?_ (fun hHeld => ?_)
                · exact ldS [] hX2 rfl
                clear hK K
                (try simp only [Act.put, List.setIfInBounds_toArray, List.set_cons_zero, List.set_cons_succ])
                refine wpAnyH_ready (rs := [7]) (by kernel_rfl) (by simp) ?_
                refine (AllReadyH.cons (o := ⟨none, _, _, _, _, _⟩) rfl (fun K hK => ?_) AllReadyH.nil)
                rw [if_pos (by rfl)]
                refine ow_of_wl (ops := #[]) (by rfl) ?_
                refine wl_storeA [_, _, _, _, _, _] hX2 rfl rfl rfl rfl rfl rfl rfl ?_
                intro w7 hX3
                refine q0_nil ?_
                refine hK.out _ _ ?_ (fun hHeld => ?_)
                · exact ldS [] hX3 rfl
                clear hK K
                (try simp only [Act.put, List.setIfInBounds_toArray, List.set_cons_zero, List.set_cons_succ])
                refine wpAnyH_done (by kernel_rfl) ?_ _
                clear hHeld
                go_wp2_with (first | go_big_skip | go_big_guard | fail)
                have hl := Loads.atA (P := Try.prog) (off := 0) (T := 30) tab0 [_, _, _, _, _, _, _] hX3 rfl rfl
                have hk := Loads.atA (P := Try.prog) (off := 0) (T := 33) [.int .i64 4, .int .i64 p] [_, _, _, _, _, _] hX3 rfl rfl
                refine bodyPost_ret (results_cell2L rfl rfl rfl hl hk) rfl ?_
                unfold tabOut
                obtain ⟨q1, q2, q3⟩ := gOK_no_end (by rw [H9.out]) (by rw [H9.out]; exact hpl)
                rw [H9.out] at q3
                rw [if_neg (by rw [q1]; decide), q2, q3]
                exact ⟨rfl, hX3.nil⟩
              · rw [if_pos (by rfl)]
                refine ow_of_wl (ops := #[]) (by rfl) ?_
                refine wl_storeA [_, _, _, _, _, _, _] hY rfl rfl rfl rfl rfl rfl rfl ?_
                intro w7 hX2
                refine q0_nil ?_
                refine hK.out _ _ ?_ (fun hHeld => ?_)
                · exact ldS [] hX2 rfl
                clear hK K
                (try simp only [Act.put, List.setIfInBounds_toArray, List.set_cons_zero, List.set_cons_succ])
                refine wpAnyH_ready (rs := [5]) (by kernel_rfl) (by simp) ?_
                refine (AllReadyH.cons (o := ⟨some 88, _, _, _, _, _⟩) rfl (fun K hK => ?_) AllReadyH.nil)
                rw [if_pos (by rfl)]
                refine ow_of_wl (ops := #[]) (by rfl) ?_
                refine wl_buildX (cs := [.int .i64 4, .int .i64 (p : Int)]) [(0, .int .i64 4), (1, .int .i64 (p : Int))] rfl rfl (by exact rfl) (bldF2 _ _) ?_
                refine q0_nil ?_
                refine hK.out _ _ ?_ (fun hHeld => ?_)
                · exact ldS [] hX2 rfl
                clear hK K
                (try simp only [Act.put, List.setIfInBounds_toArray, List.set_cons_zero, List.set_cons_succ])
                refine wpAnyH_ready (rs := [7]) (by kernel_rfl) (by simp) ?_
                refine (AllReadyH.cons (o := ⟨none, _, _, _, _, _⟩) rfl (fun K hK => ?_) AllReadyH.nil)
                rw [if_pos (by rfl)]
                refine ow_of_wl (ops := #[]) (by rfl) ?_
                refine wl_storeA [_, _, _, _, _, _] hX2 rfl rfl rfl rfl rfl rfl rfl ?_
                intro w7 hX3
                refine q0_nil ?_
                refine hK.out _ _ ?_ (fun hHeld => ?_)
                · exact ldS [] hX3 rfl
                clear hK K
                (try simp only [Act.put, List.setIfInBounds_toArray, List.set_cons_zero, List.set_cons_succ])
                refine wpAnyH_done (by kernel_rfl) ?_ _
                clear hHeld
                go_wp2_with (first | go_big_skip | go_big_guard | fail)
                have hl := Loads.atA (P := Try.prog) (off := 0) (T := 30) tab0 [_, _, _, _, _, _, _] hX3 rfl rfl
                have hk := Loads.atA (P := Try.prog) (off := 0) (T := 33) [.int .i64 4, .int .i64 p] [_, _, _, _, _, _] hX3 rfl rfl
                refine bodyPost_ret (results_cell2L rfl rfl rfl hl hk) rfl ?_
                unfold tabOut
                obtain ⟨q1, q2, q3⟩ := gOK_no_end (by rw [H9.out]) (by rw [H9.out]; exact hpl)
                rw [H9.out] at q3
                rw [if_neg (by rw [q1]; decide), q2, q3]
                exact ⟨rfl, hX3.nil⟩
            · have d3 : decide ((p : Int) < (B.length : Int)) = false := decide_eq_false (by omega)
              obtain ⟨q, hq⟩ : ∃ q, (tabG false B).ok = q := ⟨_, rfl⟩
              have HOK := hid hq
              cases q
              · cases f
                · skip
                  go_wp2_with (first | go_big_skip | go_big_guard | (refine wl_loadE rfl rfl rfl ?_; first | refine ⟨_, Loads.at [] hX rfl, ?_⟩ | refine ⟨_, Loads.atA (tabC (tabG false B) (.slice ro j rc) (.slice lo k lc)) [_] hX rfl rfl, ?_⟩ | refine ⟨_, Loads.atA (tabC (tabG false B) (.slice ro j rc) (.slice lo k lc)) [_] hX9 rfl rfl, ?_⟩) | (go_at_call 17; refine (bytes12_no (tabG false B) ro lo j rc k lc xs _ (recs_in hX (.tail _ (.tail _ (.head _))) (by rw [HX.out]) (fun x hx => (.tail _ (.tail _ (.tail _ (.tail _ (.tail _ (.tail _ (.tail _ (.tail _ (rootRows_mem hx))))))))))) HXT.out (by omega) (by rw [HLT.out]; exact (Rd.row hX (.tail _ (.tail _ (.tail _ (.head _)))))) HLN.out (by omega) HOK.out).mono ?_; rintro _ w9 ⟨rfl, h4⟩; have hX9 := St.call0 hX h4; clear h4 hX) | (refine wl_build0 rfl rfl ?_) | (refine wl_buildX (cs := [.int .i64 2, .int .i64 0]) [(0, .int .i64 2)] rfl rfl (by exact rfl) (bldF1 _) ?_) | (refine wl_storeA [_, _, _, _, _, _, _] hX9 rfl rfl rfl rfl rfl rfl rfl ?_; intro w1 hX2; clear hX9) | (refine wl_storeA [_, _, _, _, _, _] hX2 rfl rfl rfl rfl rfl rfl rfl ?_; intro w1 hX3; clear hX2))
                  have hl := Loads.atA (P := Try.prog) (off := 0) (T := 30) tab0 [_, _, _, _, _, _, _] hX3 rfl rfl
                  have hk := Loads.atA (P := Try.prog) (off := 0) (T := 33) [.int .i64 2, .int .i64 0] [_, _, _, _, _, _] hX3 rfl rfl
                  refine bodyPost_ret (results_cell2L rfl rfl rfl hl hk) rfl ?_
                  unfold tabOut
                  obtain ⟨q1, q2, q3⟩ := gOK_no_fit (by rw [H9.out]) (by rw [H9.out]; exact hpl) (by rw [HFR.out]; rfl)
                  rw [if_neg (by rw [q1]; decide), q2, q3]
                  exact ⟨rfl, hX3.nil⟩
                · skip
                  go_wp2_with (first | go_big_skip | go_big_guard | (refine wl_loadE rfl rfl rfl ?_; first | refine ⟨_, Loads.at [] hX rfl, ?_⟩ | refine ⟨_, Loads.atA (tabC (tabG false B) (.slice ro j rc) (.slice lo k lc)) [_] hX rfl rfl, ?_⟩ | refine ⟨_, Loads.atA (tabC (tabG false B) (.slice ro j rc) (.slice lo k lc)) [_] hX9 rfl rfl, ?_⟩) | (go_at_call 17; refine (bytes12_no (tabG false B) ro lo j rc k lc xs _ (recs_in hX (.tail _ (.tail _ (.head _))) (by rw [HX.out]) (fun x hx => (.tail _ (.tail _ (.tail _ (.tail _ (.tail _ (.tail _ (.tail _ (.tail _ (rootRows_mem hx))))))))))) HXT.out (by omega) (by rw [HLT.out]; exact (Rd.row hX (.tail _ (.tail _ (.tail _ (.head _)))))) HLN.out (by omega) HOK.out).mono ?_; rintro _ w9 ⟨rfl, h4⟩; have hX9 := St.call0 hX h4; clear h4 hX) | (refine wl_build0 rfl rfl ?_) | (refine wl_buildX (cs := [.int .i64 2, .int .i64 0]) [(0, .int .i64 2)] rfl rfl (by exact rfl) (bldF1 _) ?_) | (refine wl_storeA [_, _, _, _, _, _, _] hX9 rfl rfl rfl rfl rfl rfl rfl ?_; intro w1 hX2; clear hX9) | (refine wl_storeA [_, _, _, _, _, _] hX2 rfl rfl rfl rfl rfl rfl rfl ?_; intro w1 hX3; clear hX2))
                  have hl := Loads.atA (P := Try.prog) (off := 0) (T := 30) tab0 [_, _, _, _, _, _, _] hX3 rfl rfl
                  have hk := Loads.atA (P := Try.prog) (off := 0) (T := 33) [.int .i64 2, .int .i64 0] [_, _, _, _, _, _] hX3 rfl rfl
                  refine bodyPost_ret (results_cell2L rfl rfl rfl hl hk) rfl ?_
                  unfold tabOut
                  obtain ⟨q1, q2, q3⟩ := gOK_no_fit (by rw [H9.out]) (by rw [H9.out]; exact hpl) (by rw [HFR.out, HOK.out]; rfl)
                  rw [if_neg (by rw [q1]; decide), q2, q3]
                  exact ⟨rfl, hX3.nil⟩
              · cases f
                · skip
                  go_wp2_with (first | go_big_skip | go_big_guard | (refine wl_loadE rfl rfl rfl ?_; first | refine ⟨_, Loads.at [] hX rfl, ?_⟩ | refine ⟨_, Loads.atA (tabC (tabG false B) (.slice ro j rc) (.slice lo k lc)) [_] hX rfl rfl, ?_⟩ | refine ⟨_, Loads.atA (tabC (tabG false B) (.slice ro j rc) (.slice lo k lc)) [_, _] hX9 rfl rfl, ?_⟩) | (go_at_call 17; refine (bytes12_ok (tabG false B) ro lo j rc k lc xs _ (recs_in hX (.tail _ (.tail _ (.head _))) (by rw [HX.out]) (fun x hx => (.tail _ (.tail _ (.tail _ (.tail _ (.tail _ (.tail _ (.tail _ (.tail _ (rootRows_mem hx))))))))))) HXT.out (by rw [HLT.out]; exact (Rd.row hX (.tail _ (.tail _ (.tail _ (.head _)))))) HLN.out HOK.out).mono ?_; rintro _ w9 ⟨u, m, rfl, hm, h4⟩; have hX9 := St.call hX h4; clear h4 hX) | (refine wl_build0 rfl rfl ?_) | (refine wl_buildX (cs := [.int .i64 2, .int .i64 0]) [(0, .int .i64 2)] rfl rfl (by exact rfl) (bldF1 _) ?_) | (refine wl_storeA [_, _, _, _, _, _, _, _] hX9 rfl rfl rfl rfl rfl rfl rfl ?_; intro w1 hX2; clear hX9) | (refine wl_storeA [_, _, _, _, _, _, _] hX2 rfl rfl rfl rfl rfl rfl rfl ?_; intro w1 hX3; clear hX2))
                  have hl := Loads.atA (P := Try.prog) (off := 0) (T := 30) tab0 [_, _, _, _, _, _, _, _] hX3 rfl rfl
                  have hk := Loads.atA (P := Try.prog) (off := 0) (T := 33) [.int .i64 2, .int .i64 0] [_, _, _, _, _, _, _] hX3 rfl rfl
                  refine bodyPost_ret (results_cell2L rfl rfl rfl hl hk) rfl ?_
                  unfold tabOut
                  obtain ⟨q1, q2, q3⟩ := gOK_no_fit (by rw [H9.out]) (by rw [H9.out]; exact hpl) (by rw [HFR.out]; rfl)
                  rw [if_neg (by rw [q1]; decide), q2, q3]
                  exact ⟨rfl, hX3.nil⟩
                · obtain ⟨hg1, hg2⟩ := gOK_yes (B := B) (by rw [H9.out]) (by rw [H9.out]; exact hpl) HFR.out hq
                  have HGK := hid hg1
                  have HEQ := hid (show ((tabG false B).bytes == B) = true by rw [hg2]; exact beq_self_eq_true B)
                  clear hg1 hg2
                  go_wp2_with (first | go_big_skip | go_big_guard | (refine wl_loadE rfl rfl rfl ?_; first | refine ⟨_, Loads.at [] hX rfl, ?_⟩ | refine ⟨_, Loads.atA (tabC (tabG false B) (.slice ro j rc) (.slice lo k lc)) [_] hX rfl rfl, ?_⟩ | refine ⟨_, Loads.atA (tabC (tabG false B) (.slice ro j rc) (.slice lo k lc)) [_, _] hX9 rfl rfl, ?_⟩) | (go_at_call 17; refine (bytes12_ok (tabG false B) ro lo j rc k lc xs _ (recs_in hX (.tail _ (.tail _ (.head _))) (by rw [HX.out]) (fun x hx => (.tail _ (.tail _ (.tail _ (.tail _ (.tail _ (.tail _ (.tail _ (.tail _ (rootRows_mem hx))))))))))) HXT.out (by rw [HLT.out]; exact (Rd.row hX (.tail _ (.tail _ (.tail _ (.head _)))))) HLN.out HOK.out).mono ?_; rintro _ w9 ⟨u, m, rfl, hm, h4⟩; have hX9 := St.call hX h4; clear h4 hX) | (go_at_call 34; refine (beq_any _ _ _ _ (tabG false B).bytes B _ (Rd.rowP hX9 (.head _)) (Rd.old hX9 HB.out)).mono ?_; rw [HEQ.out]; rintro _ w9 ⟨rfl, h4⟩; replace hX9 := St.call0 hX9 h4; clear h4) | (refine wl_build0 rfl rfl ?_) | (refine wl_buildX (cs := [.int .i64 2, .int .i64 0]) [(0, .int .i64 2)] rfl rfl (by exact rfl) (bldF1 _) ?_) | (refine wl_storeA [_, _, _, _, _, _, _, _] hX9 rfl rfl rfl rfl rfl rfl rfl ?_; intro w1 hX2; clear hX9) | (refine wl_storeA [_, _, _, _, _, _, _] hX2 rfl rfl rfl rfl rfl rfl rfl ?_; intro w1 hX3; clear hX2))
                  have hl := Loads.atA (P := Try.prog) (off := 0) (T := 30) (tabC (tabG false B) (.slice ro j rc) (.slice lo k lc)) [_, _, _, _, _, _, _, _] hX3 rfl rfl
                  have hk := Loads.atA (P := Try.prog) (off := 0) (T := 33) [.int .i64 0, .int .i64 0] [_, _, _, _, _, _, _] hX3 rfl rfl
                  refine bodyPost_ret (results_cell2L rfl rfl rfl hl hk) rfl ?_
                  unfold tabOut
                  rw [if_pos HGK.out]
                  refine ⟨.slice ro j rc, .slice lo k lc, xs, rfl, HXT.out, ?_⟩
                  have hrl : (tabG false B).recs.length = j := by rw [HM.out]; exact length_rcsG _ _ _ _
                  rw [hrl, HLN.out, HLT.out]
                  exact St.sub hX3 (.cons _ (.cons _ (.cons _ (.cons_cons _ (.cons_cons _ (.cons _ (.cons _ (.cons _ (.cons _ (List.Sublist.refl _))))))))))
          · skip
            go_wp2_with (first | go_big_skip | go_big_guard | (refine wl_loadE rfl rfl rfl ?_; refine ⟨_, Loads.at [] hX rfl, ?_⟩) | (refine wl_build0 rfl rfl ?_) | (refine wl_buildX (cs := [.int .i64 4, .int .i64 B.length]) [(0, .int .i64 4), (1, .int .i64 B.length)] rfl rfl (by exact rfl) (bldF2 _ _) ?_) | (refine wl_storeA [_, _, _, _, _, _, _] hX rfl rfl rfl rfl rfl rfl rfl ?_; intro w1 hX2; clear hX) | (refine wl_storeA [_, _, _, _, _, _] hX2 rfl rfl rfl rfl rfl rfl rfl ?_; intro w1 hX3; clear hX2))
            have hl := Loads.atA (P := Try.prog) (off := 0) (T := 30) tab0 [_, _, _, _, _, _, _] hX3 rfl rfl
            have hk := Loads.atA (P := Try.prog) (off := 0) (T := 33) [.int .i64 4, .int .i64 B.length] [_, _, _, _, _, _] hX3 rfl rfl
            refine bodyPost_ret (results_cell2L rfl rfl rfl hl hk) rfl ?_
            unfold tabOut
            obtain ⟨q1, q2, q3⟩ := gOK_no_short (by rw [H9.out])
            rw [if_neg (by rw [q1]; decide), q2, q3]
            exact ⟨rfl, hX3.nil⟩
end Go.Proofs.Ytkpkaoiafppimaa
namespace Go.Proofs.Ytkpkaoiafppimaa
set_option linter.unusedVariables false
set_option linter.unusedSimpArgs false
open Go.RowKit Hp
def RC.sameB (x y : RC) : Bool := (((((((((x.id == y.id) && (x.name == y.name)) && (x.kind == y.kind)) && (x.size == y.size)) && (x.pv undef).same (y.pv undef)) && (x.made == y.made)) && (x.own == y.own)) && (x.origin == y.origin)) && (x.quota == y.quota)) && (x.reserve == y.reserve)
def recsB : List RC → List RC → Bool
  | [], [] => true
  | x :: l, y :: k => x.sameB y && recsB l k
  | _, _ => false
def TC.curL (t : TC) : List Int := [t.kind, t.dev, t.at_, t.txg]
def TC.sameB (t u : TC) : Bool := (((t.next == u.next) && (t.curL == u.curL)) && (t.lives == u.lives)) && recsB t.recs u.recs
theorem RC.sameB_iff {x y : RC} : x.sameB y = true ↔ x = y := by
  constructor
  · intro h
    unfold RC.sameB at h
    simp only [Bool.and_eq_true, beq_iff_eq] at h
    obtain ⟨⟨⟨⟨⟨⟨⟨⟨⟨h1, h2⟩, h3⟩, h4⟩, h5⟩, h6⟩, h7⟩, h8⟩, h9⟩, h10⟩ := h
    unfold PV.same Go.Proofs.Ytkpkaoiafppimaa.sameB at h5
    simp only [Bool.and_eq_true, beq_iff_eq, decide_eq_true_eq] at h5
    obtain ⟨a1, a2, a3, a4⟩ := h5
    cases x; cases y
    simp only [RC.pv] at *
    subst h1 h2 h3 h4 h6 h7 h8 h9 h10 a1 a2 a3 a4
    rfl
  · rintro rfl
    unfold RC.sameB
    simp [PV.same, Go.Proofs.Ytkpkaoiafppimaa.sameB]
theorem recsB_iff : ∀ {l k : List RC}, recsB l k = true ↔ l = k
  | [], [] => by simp [recsB]
  | [], y :: k => by simp [recsB]
  | x :: l, [] => by simp [recsB]
  | x :: l, y :: k => by
    rw [recsB, Bool.and_eq_true, RC.sameB_iff, recsB_iff]
    constructor
    · rintro ⟨rfl, rfl⟩; rfl
    · intro h
      cases h
      exact ⟨rfl, rfl⟩
theorem TC.sameB_iff {t u : TC} : t.sameB u = true ↔ t = u := by
  unfold TC.sameB
  rw [Bool.and_eq_true, Bool.and_eq_true, Bool.and_eq_true, recsB_iff, beq_iff_eq, beq_iff_eq, beq_iff_eq]
  constructor
  · rintro ⟨⟨⟨h1, h2⟩, h3⟩, h4⟩
    unfold TC.curL at h2
    simp at h2
    obtain ⟨a1, a2, a3, a4⟩ := h2
    cases t; cases u
    simp only at *
    subst h1 h3 h4 a1 a2 a3 a4
    rfl
  · rintro rfl
    exact ⟨⟨⟨rfl, rfl⟩, rfl⟩, rfl⟩
theorem recsB_len {l k : List RC} (h : l.length ≠ k.length) : recsB l k = false := by
  cases hh : recsB l k with
  | false => rfl
  | true => exact absurd (congrArg List.length (recsB_iff.1 hh)) h
theorem recsB_no {l k : List RC} {j : Nat} {x y : RC} (hx : l[j]? = some x) (hy : k[j]? = some y) (h : x.sameB y = false) : recsB l k = false := by
  cases hh : recsB l k with
  | false => rfl
  | true =>
    have := recsB_iff.1 hh
    subst this
    rw [hx] at hy
    cases hy
    rw [RC.sameB_iff.2 rfl] at h
    cases h
theorem recsB_all {l k : List RC} (hl : l.length = k.length) (h : ∀ (j : Nat) (x y : RC), l[j]? = some x → k[j]? = some y → x.sameB y = true) : recsB l k = true := by
  rw [recsB_iff]
  apply List.ext_getElem hl
  intro j h1 h2
  exact RC.sameB_iff.1 (h j _ _ (List.getElem?_eq_getElem h1) (List.getElem?_eq_getElem h2))
theorem RC.sameB_pv (x y : RC) (sv sv' : Value) : x.sameB y = ((((((((((x.id == y.id) && (x.name == y.name)) && (x.kind == y.kind)) && (x.size == y.size)) && (x.pv sv).same (y.pv sv')) && (x.made == y.made)) && (x.own == y.own)) && (x.origin == y.origin)) && (x.quota == y.quota)) && (x.reserve == y.reserve)) := rfl
theorem ints_len {l k : List Int} (h : l.length ≠ k.length) : (l == k) = false := by
  rw [beq_eq_false_iff_ne]
  exact fun e => h (by rw [e])
theorem ints_no {l k : List Int} {j : Nat} {x y : Int} (hx : l[j]? = some x) (hy : k[j]? = some y) (h : x ≠ y) : (l == k) = false := by
  rw [beq_eq_false_iff_ne]
  rintro rfl
  rw [hx] at hy
  exact h (Option.some.inj hy)
theorem ints_all {l k : List Int} (hl : l.length = k.length) (h : ∀ (j : Nat) (x y : Int), l[j]? = some x → k[j]? = some y → x = y) : (l == k) = true := by
  rw [beq_iff_eq]
  apply List.ext_getElem hl
  intro j h1 h2
  exact h j _ _ (List.getElem?_eq_getElem h1) (List.getElem?_eq_getElem h2)
theorem TC.same1 {t u : TC} (h : (t.next == u.next) = false) : t.sameB u = false := by unfold TC.sameB; rw [h]; rfl
theorem TC.same2 {t u : TC} (h : (t.curL == u.curL) = false) : t.sameB u = false := by unfold TC.sameB; rw [h]; simp
theorem TC.same3 {t u : TC} (h : (t.lives == u.lives) = false) : t.sameB u = false := by unfold TC.sameB; rw [h]; simp
theorem TC.same4 {t u : TC} (h : recsB t.recs u.recs = false) : t.sameB u = false := by unfold TC.sameB; rw [h]; simp
theorem TC.same0 {t u : TC} (h1 : (t.next == u.next) = true) (h2 : (t.curL == u.curL) = true) (h3 : (t.lives == u.lives) = true) (h4 : recsB t.recs u.recs = true) : t.sameB u = true := by unfold TC.sameB; rw [h1, h2, h3, h4]; rfl
end Go.Proofs.Ytkpkaoiafppimaa
