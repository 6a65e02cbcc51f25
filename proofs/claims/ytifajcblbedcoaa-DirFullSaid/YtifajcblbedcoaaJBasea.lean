import Derived.Test.YtifajcblbedcoaaD7
import Derived.Test.YtifajcblbedcoaaNT5
import Derived.Test.YtifajcblbedcoaaSepK
import Derived.Test.YtifajcblbedcoaaTy
import Derived.Test.YtifajcblbedcoaaSepY
import Derived.Deep.RegionHeld3
import Derived.Outline
import Derived.IntWalk
import Derived.Test.YtifajcblbedcoaaPtrB
import Derived.Test.YtifajcblbedcoaaNum
import Derived.Test.YtifajcblbedcoaaSepP
import Derived.Deep.DrawnRows
import Derived.Test.YtifajcblbedcoaaPtrR
import Derived.Test.YtifajcblbedcoaaSepR
namespace Go.Proofs.Ytifajcblbedcoaa
set_option linter.unusedVariables false
set_option linter.unusedSimpArgs false
open Go.RowKit Hp
attribute [local irreducible] Go.Calls
set_option maxRecDepth 100000
set_option maxHeartbeats 4000000
attribute [local go_sem ↓] heldInt heldRecs heldStr
theorem idxI_at {α : Type} {p : α → Bool} : ∀ {l : List α}, 0 ≤ idxI p l → ∃ k : Nat, idxI p l = k ∧ k < l.length
  | [], h => by simp [idxI] at h
  | x :: l, h => by
    unfold idxI at h ⊢
    split
    · exact ⟨0, rfl, by simp⟩
    · rename_i hx
      rw [if_neg hx] at h
      split
      · rename_i h1
        rw [if_pos h1] at h
        omega
      · rename_i h1
        obtain ⟨k, hk, hl⟩ := idxI_at (l := l) (p := p) (by omega)
        exact ⟨k + 1, by omega, by simpa using hl⟩
theorem findP_yes {name : List UInt8} {xs : List (Value × RC)} {z : Int} (h : findP name (xs.map (·.2)) = (z, true)) : ∃ (j : Nat) (y : Value × RC), z = (j : Int) ∧ xs[j]? = some y ∧ findN name (xs.map (·.2)) = (j : Int) := by
  unfold findP at h
  split at h
  · cases h
  · rename_i h0
    obtain ⟨k, hk, hl⟩ := idxI_at (l := xs.map (·.2)) (p := fun x => x.name == name) (by unfold findN at h0; omega)
    have hz : findN name (xs.map (·.2)) = z := congrArg Prod.fst h
    rw [List.length_map] at hl
    exact ⟨k, xs[k], by rw [← hz]; exact hk, List.getElem?_eq_getElem hl, hk⟩
theorem volB_no {l : List RC} {r : RC} {z : Int} (h : findP (splitL r.name).1 l = (z, false)) : volB l r = false := by
  unfold findP at h
  split at h
  · rename_i h0
    unfold volB
    rw [decide_eq_false (by omega), Bool.false_and]
  · cases h
theorem volB_yes {xs : List (Value × RC)} {r : RC} {j : Nat} {y : Value × RC} (h : findN (splitL r.name).1 (xs.map (·.2)) = (j : Int)) (hy : xs[j]? = some y) : volB (xs.map (·.2)) r = (y.2.id == r.own) := by
  unfold volB
  rw [h, decide_eq_true (by omega), Bool.true_and]
  unfold idAt
  rw [Int.toNat_natCast, List.getElem?_map, hy]
  rfl
theorem RecsIn.take {w : World} {ao : Option Addr} {n c i : Nat} {xs : List (Value × RC)} (h : RecsIn w (.slice ao n c) n xs) (hi : i ≤ n) : RecsIn w (.slice ao i c) i (xs.take i) := by
  refine ⟨?_, by rw [List.length_take, h.len]; omega, fun x hx => h.each x (List.mem_of_mem_take hx)⟩
  obtain ⟨hl1, ao', c0, he, hn, hcm, hnone, hsome⟩ := h.rd
  simp only [Value.slice.injEq, true_and] at he
  obtain ⟨rfl, rfl⟩ := he
  have hlen : (recsV (xs.take i)).length = i * 44 := by
    have : ∀ l : List (Value × RC), (∀ x ∈ l, L32 x.2.S) → (recsV l).length = l.length * 44 := by
      intro l
      induction l with
      | nil => intro _; rfl
      | cons x l ih =>
        intro hl
        show (cellsR x ++ recsV l).length = _
        rw [List.length_append, cellsR_len (hl x (.head _)), ih (fun y hy => hl y (.tail _ hy)), List.length_cons]
        omega
    rw [this _ (fun x hx => (h.each x (List.mem_of_mem_take hx)).L), List.length_take, h.len]
    rw [Nat.min_eq_left hi]
  refine ⟨hlen, ao, c, rfl, by omega, hcm, fun h0 => ⟨by have := (hnone h0).1; omega, (hnone h0).2⟩, fun A hA h0 => ?_⟩
  obtain ⟨b, off, rfl, hr⟩ := hsome A hA h0
  refine ⟨b, off, rfl, fun j v hv => hr j v ?_⟩
  have e : recsV xs = recsV (xs.take i) ++ recsV (xs.drop i) := by rw [← recsV_append, List.take_append_drop]
  rw [e, List.getElem?_append_left (by have := (List.getElem?_eq_some_iff.1 hv).1; exact this)]
  exact hv
theorem related_any (t : TC) (lv : Value) (ar : Option Addr) (nr cr : Nat) (xs : List (Value × RC)) (w : World) (hR : RecsIn w (.slice ar nr cr) nr xs) (hb : nr ≤ 1000000) (i : Nat) (x : Value × RC) (hi : xs[i]? = some x) :
    Calls Try.prog 79 #[.agg (tabC t (.slice ar nr cr) lv).toArray, .int .i64 i] w fun e w' => e = .returned (.bool (relB t.next (xs.map (·.2)) i x.2)) ∧ St w [] w' [] := by
  have hst0 := St.refl w
  have hlt : i < nr := by rw [← hR.len]; exact (List.getElem?_eq_some_iff.1 hi).1
  obtain ⟨x', lb, lo, hx', rfl, hin, hr⟩ := RecsIn.at hR hlt
  obtain rfl : x = x' := Option.some.inj (hi.symm.trans hx')
  have hcr : nr ≤ cr ∧ cr ≤ maxLen := by
    obtain ⟨_, ao', c0, he, hn, hcm, _⟩ := hR.rd
    cases he
    exact ⟨hn, hcm⟩
  have HR := hid hR
  have HT := hid (hR.take (Nat.le_of_lt hlt))
  have HIN := hid hin
  have HLL := hid hin.L
  have HL := hid (cellsR_len hin.L)
  have HWR := hid hr
  clear hx' hin hr hR hi
  obtain ⟨n1, hn1⟩ : ∃ n1, n1 = idxI (fun y : RC => y.id == x.2.id) ((xs.take i).map (·.2)) := ⟨_, rfl⟩
  have HN1 := hid hn1
  have hany : ((xs.map (·.2)).take i).any (fun y => y.id == x.2.id) = decide (n1 ≥ 0) := by rw [hn1, idxI_any, List.map_take]
  have HA := hid hany
  clear hn1 hany
  obtain ⟨RR, hRR⟩ : ∃ RR, RR = relB t.next (xs.map (·.2)) i x.2 := ⟨_, rfl⟩
  rw [← hRR]
  have HRR := hid hRR
  clear hRR
  obtain ⟨hc1, hc2⟩ := hcr
  unfold maxLen at hc2
  by_cases k1 : n1 ≥ 0
  · have d1 : decide (n1 ≥ 0) = true := decide_eq_true k1
    have d2 : decide (0 ≤ n1) = true := d1
    have hv : RR = false := by rw [HRR.out]; unfold relB; rw [HA.out, d1]; rfl
    rw [hv]
    clear hv k1
    go_enter Try.func79, Try.ntmps79
    go_wp2_with (first | go_big_skip | go_big_guard | (refine wl_boxA hst0 rfl rfl rfl ?_; intro g1 w1 hst1; clear hst0) | (refine wl_index rfl rfl rfl rfl hlt ?_) | (refine wl_loadE rfl rfl rfl ?_; first | refine ⟨_, Loads.at [] hst1 rfl, ?_⟩ | refine ⟨_, Loads.oldA (cs := cellsR x) hst1 HL.out HWR.out, ?_⟩ | refine ⟨_, Loads.atA (tabC t (.slice (some ⟨lb, lo, none⟩) nr cr) lv) [_] hst rfl rfl, ?_⟩ | refine ⟨_, Loads.at [] hst rfl, ?_⟩ | refine ⟨_, Loads.at [] hst (cellsR_41 HLL.out), ?_⟩ | refine ⟨_, Loads.at [_] hst rfl, ?_⟩) | (refine wl_alloc hst1 rfl rfl ?_; intro gx w2 hst2; clear hst1) | (refine wl_storeA [] hst2 rfl rfl rfl rfl (by exact HL.out) (cellsR_ones HIN.out) rfl ?_; intro w3 hst; clear hst2) | (go_at_call 64; refine (indexR_any 90 gx (fun y => y.id == x.2.id) _ i cr (xs.take i) _ (fun _ _ => rfl) (fun y w' hy h => twinC_any (St.old_cell h (hst.cell (g := gx) (off := 0) (.head _) rfl) (by simp)) y (((HT.out.old hst.nil).old h).each y hy)) (HT.out.old hst.nil) (by omega)).mono ?_; rw [← HN1.out]; rintro _ w9 ⟨rfl, h4⟩; replace hst := St.call0 hst h4; clear h4) | (go_at_call 64; refine (indexR_any 91 gx (fun y => (y.id == x.2.origin) && (y.kind == 2)) _ nr cr xs _ (fun _ _ => rfl) (fun y w' hy h => originC_any (St.old_cell h (hst.cell (g := gx) (off := 41) (.head _) (cellsR_41 HLL.out)) (by simp)) y (((HR.out.old hst.nil).old h).each y hy)) (HR.out.old hst.nil) hb).mono ?_; rintro _ w9 ⟨rfl, h4⟩; replace hst := St.call0 hst h4; clear h4) | (go_at_call 39; refine (split_any x.2.name _ HIN.out.2).mono ?_; rintro _ w9 ⟨rfl, h4⟩; replace hst := St.call0 hst h4; clear h4) | (go_at_call 33; refine (find_any t lv (splitL x.2.name).1 _ nr cr xs _ (HR.out.old hst.nil) hb).mono ?_; rw [HF.out]; rintro _ w9 ⟨rfl, h4⟩; replace hst := St.call0 hst h4; clear h4))
    go_ret
    exact ⟨rfl, hst.nil⟩
  · have d1 : decide (n1 ≥ 0) = false := decide_eq_false k1
    have d2 : decide (0 ≤ n1) = false := d1
    clear k1
    by_cases k2 : x.2.id < t.next
    · have d3 : decide (x.2.id ≥ t.next) = false := decide_eq_false (by omega)
      have d4 : decide (t.next ≤ x.2.id) = false := d3
      have hv : RR = kinB (xs.map (·.2)) x.2 := by rw [HRR.out]; unfold relB; rw [HA.out, d1, decide_eq_true k2]; rfl
      have HV := hid hv
      clear hv k2
      cases d5 : (x.2.kind == 2)
      · cases d6 : (x.2.origin == 0)
        · have hv : RR = decide (idxI (fun y : RC => (y.id == x.2.origin) && (y.kind == 2)) (xs.map (·.2)) ≥ 0) := by rw [HV.out]; unfold kinB; rw [d5, d6, idxI_any]; rfl
          rw [hv]
          clear hv
          go_enter Try.func79, Try.ntmps79
          go_wp2_with (first | go_big_skip | go_big_guard | (refine wl_boxA hst0 rfl rfl rfl ?_; intro g1 w1 hst1; clear hst0) | (refine wl_index rfl rfl rfl rfl hlt ?_) | (refine wl_loadE rfl rfl rfl ?_; first | refine ⟨_, Loads.at [] hst1 rfl, ?_⟩ | refine ⟨_, Loads.oldA (cs := cellsR x) hst1 HL.out HWR.out, ?_⟩ | refine ⟨_, Loads.atA (tabC t (.slice (some ⟨lb, lo, none⟩) nr cr) lv) [_] hst rfl rfl, ?_⟩ | refine ⟨_, Loads.at [] hst rfl, ?_⟩ | refine ⟨_, Loads.at [] hst (cellsR_41 HLL.out), ?_⟩ | refine ⟨_, Loads.at [_] hst rfl, ?_⟩) | (refine wl_alloc hst1 rfl rfl ?_; intro gx w2 hst2; clear hst1) | (refine wl_storeA [] hst2 rfl rfl rfl rfl (by exact HL.out) (cellsR_ones HIN.out) rfl ?_; intro w3 hst; clear hst2) | (go_at_call 64; refine (indexR_any 90 gx (fun y => y.id == x.2.id) _ i cr (xs.take i) _ (fun _ _ => rfl) (fun y w' hy h => twinC_any (St.old_cell h (hst.cell (g := gx) (off := 0) (.head _) rfl) (by simp)) y (((HT.out.old hst.nil).old h).each y hy)) (HT.out.old hst.nil) (by omega)).mono ?_; rw [← HN1.out]; rintro _ w9 ⟨rfl, h4⟩; replace hst := St.call0 hst h4; clear h4) | (go_at_call 64; refine (indexR_any 91 gx (fun y => (y.id == x.2.origin) && (y.kind == 2)) _ nr cr xs _ (fun _ _ => rfl) (fun y w' hy h => originC_any (St.old_cell h (hst.cell (g := gx) (off := 41) (.head _) (cellsR_41 HLL.out)) (by simp)) y (((HR.out.old hst.nil).old h).each y hy)) (HR.out.old hst.nil) hb).mono ?_; rintro _ w9 ⟨rfl, h4⟩; replace hst := St.call0 hst h4; clear h4) | (go_at_call 39; refine (split_any x.2.name _ HIN.out.2).mono ?_; rintro _ w9 ⟨rfl, h4⟩; replace hst := St.call0 hst h4; clear h4) | (go_at_call 33; refine (find_any t lv (splitL x.2.name).1 _ nr cr xs _ (HR.out.old hst.nil) hb).mono ?_; rw [HF.out]; rintro _ w9 ⟨rfl, h4⟩; replace hst := St.call0 hst h4; clear h4))
          go_ret
          exact ⟨rfl, hst.nil⟩
        · have hv : RR = true := by rw [HV.out]; unfold kinB; rw [d5, d6]; rfl
          rw [hv]
          clear hv
          go_enter Try.func79, Try.ntmps79
          go_wp2_with (first | go_big_skip | go_big_guard | (refine wl_boxA hst0 rfl rfl rfl ?_; intro g1 w1 hst1; clear hst0) | (refine wl_index rfl rfl rfl rfl hlt ?_) | (refine wl_loadE rfl rfl rfl ?_; first | refine ⟨_, Loads.at [] hst1 rfl, ?_⟩ | refine ⟨_, Loads.oldA (cs := cellsR x) hst1 HL.out HWR.out, ?_⟩ | refine ⟨_, Loads.atA (tabC t (.slice (some ⟨lb, lo, none⟩) nr cr) lv) [_] hst rfl rfl, ?_⟩ | refine ⟨_, Loads.at [] hst rfl, ?_⟩ | refine ⟨_, Loads.at [] hst (cellsR_41 HLL.out), ?_⟩ | refine ⟨_, Loads.at [_] hst rfl, ?_⟩) | (refine wl_alloc hst1 rfl rfl ?_; intro gx w2 hst2; clear hst1) | (refine wl_storeA [] hst2 rfl rfl rfl rfl (by exact HL.out) (cellsR_ones HIN.out) rfl ?_; intro w3 hst; clear hst2) | (go_at_call 64; refine (indexR_any 90 gx (fun y => y.id == x.2.id) _ i cr (xs.take i) _ (fun _ _ => rfl) (fun y w' hy h => twinC_any (St.old_cell h (hst.cell (g := gx) (off := 0) (.head _) rfl) (by simp)) y (((HT.out.old hst.nil).old h).each y hy)) (HT.out.old hst.nil) (by omega)).mono ?_; rw [← HN1.out]; rintro _ w9 ⟨rfl, h4⟩; replace hst := St.call0 hst h4; clear h4) | (go_at_call 64; refine (indexR_any 91 gx (fun y => (y.id == x.2.origin) && (y.kind == 2)) _ nr cr xs _ (fun _ _ => rfl) (fun y w' hy h => originC_any (St.old_cell h (hst.cell (g := gx) (off := 41) (.head _) (cellsR_41 HLL.out)) (by simp)) y (((HR.out.old hst.nil).old h).each y hy)) (HR.out.old hst.nil) hb).mono ?_; rintro _ w9 ⟨rfl, h4⟩; replace hst := St.call0 hst h4; clear h4) | (go_at_call 39; refine (split_any x.2.name _ HIN.out.2).mono ?_; rintro _ w9 ⟨rfl, h4⟩; replace hst := St.call0 hst h4; clear h4) | (go_at_call 33; refine (find_any t lv (splitL x.2.name).1 _ nr cr xs _ (HR.out.old hst.nil) hb).mono ?_; rw [HF.out]; rintro _ w9 ⟨rfl, h4⟩; replace hst := St.call0 hst h4; clear h4))
          go_ret
          exact ⟨rfl, hst.nil⟩
      · have hv : RR = volB (xs.map (·.2)) x.2 := by rw [HV.out]; unfold kinB; rw [d5]; rfl
        obtain ⟨⟨z, is⟩, hf⟩ : ∃ p, findP (splitL x.2.name).1 (xs.map (·.2)) = p := ⟨_, rfl⟩
        have HF := hid hf
        cases is
        · have hv2 := hv.trans (volB_no hf)
          rw [hv2]
          clear hv hv2 hf
          go_enter Try.func79, Try.ntmps79
          go_wp2_with (first | go_big_skip | go_big_guard | (refine wl_boxA hst0 rfl rfl rfl ?_; intro g1 w1 hst1; clear hst0) | (refine wl_index rfl rfl rfl rfl hlt ?_) | (refine wl_loadE rfl rfl rfl ?_; first | refine ⟨_, Loads.at [] hst1 rfl, ?_⟩ | refine ⟨_, Loads.oldA (cs := cellsR x) hst1 HL.out HWR.out, ?_⟩ | refine ⟨_, Loads.atA (tabC t (.slice (some ⟨lb, lo, none⟩) nr cr) lv) [_] hst rfl rfl, ?_⟩ | refine ⟨_, Loads.at [] hst rfl, ?_⟩ | refine ⟨_, Loads.at [] hst (cellsR_41 HLL.out), ?_⟩ | refine ⟨_, Loads.at [_] hst rfl, ?_⟩) | (refine wl_alloc hst1 rfl rfl ?_; intro gx w2 hst2; clear hst1) | (refine wl_storeA [] hst2 rfl rfl rfl rfl (by exact HL.out) (cellsR_ones HIN.out) rfl ?_; intro w3 hst; clear hst2) | (go_at_call 64; refine (indexR_any 90 gx (fun y => y.id == x.2.id) _ i cr (xs.take i) _ (fun _ _ => rfl) (fun y w' hy h => twinC_any (St.old_cell h (hst.cell (g := gx) (off := 0) (.head _) rfl) (by simp)) y (((HT.out.old hst.nil).old h).each y hy)) (HT.out.old hst.nil) (by omega)).mono ?_; rw [← HN1.out]; rintro _ w9 ⟨rfl, h4⟩; replace hst := St.call0 hst h4; clear h4) | (go_at_call 64; refine (indexR_any 91 gx (fun y => (y.id == x.2.origin) && (y.kind == 2)) _ nr cr xs _ (fun _ _ => rfl) (fun y w' hy h => originC_any (St.old_cell h (hst.cell (g := gx) (off := 41) (.head _) (cellsR_41 HLL.out)) (by simp)) y (((HR.out.old hst.nil).old h).each y hy)) (HR.out.old hst.nil) hb).mono ?_; rintro _ w9 ⟨rfl, h4⟩; replace hst := St.call0 hst h4; clear h4) | (go_at_call 39; refine (split_any x.2.name _ HIN.out.2).mono ?_; rintro _ w9 ⟨rfl, h4⟩; replace hst := St.call0 hst h4; clear h4) | (go_at_call 33; refine (find_any t lv (splitL x.2.name).1 _ nr cr xs _ (HR.out.old hst.nil) hb).mono ?_; rw [HF.out]; rintro _ w9 ⟨rfl, h4⟩; replace hst := St.call0 hst h4; clear h4))
          have hD := hst.drew
          clear hst
          refine wp_region_held_drew (S := (fun w' => (loadVarH 22 ⟨g1, 1, none⟩).run Try.prog w' = .ok (.slice (some ⟨lb, lo, none⟩) nr cr) w' ∧ (loadVarH 3 ⟨gx, 40, none⟩).run Try.prog w' = .ok (.int .i64 x.2.own) w')) (by kernel_rfl) (by exact ⟨ldS [_] hD rfl, ldS [] hD (cellsR_40 HLL.out)⟩) (fun hHeld => ?_)
          refine tk 0 48 ?_
          (try simp only [Act.put, List.setIfInBounds_toArray, List.set_cons_zero, List.set_cons_succ])
          refine tk 1 49 ?_
          (try simp only [Act.put, List.setIfInBounds_toArray, List.set_cons_zero, List.set_cons_succ])
          refine wpAnyH_take (i := 2) (oi := ⟨some 50, _, _, _, _, _⟩) (v := undef) rfl (by kernel_rfl) (by kernel_rfl) (by kernel_rfl) (fun _ _ _ h => h) (Or.inr ⟨by rfl, rfl⟩) (by assumption) ?_
          (try simp only [Act.put, List.setIfInBounds_toArray, List.set_cons_zero, List.set_cons_succ])
          refine wpAnyH_take (i := 4) (oi := ⟨some 52, _, _, _, _, _⟩) (v := undef) rfl (by kernel_rfl) (by kernel_rfl) (by kernel_rfl) (fun _ _ _ h => h) (Or.inr ⟨by rfl, rfl⟩) (by assumption) ?_
          (try simp only [Act.put, List.setIfInBounds_toArray, List.set_cons_zero, List.set_cons_succ])
          refine wpAnyH_take (i := 8) (oi := ⟨some 56, _, _, _, _, _⟩) (v := undef) rfl (by kernel_rfl) (by kernel_rfl) (by kernel_rfl) (fun _ _ _ h => h) (Or.inr ⟨by rfl, rfl⟩) (by assumption) ?_
          (try simp only [Act.put, List.setIfInBounds_toArray, List.set_cons_zero, List.set_cons_succ])
          refine wpAnyH_take (i := 3) (oi := ⟨some 51, _, _, _, _, _⟩) (v := undef) rfl (by kernel_rfl) (by kernel_rfl) (by kernel_rfl) (fun _ _ _ h => h) (Or.inr ⟨by rfl, rfl⟩) (by assumption) ?_
          (try simp only [Act.put, List.setIfInBounds_toArray, List.set_cons_zero, List.set_cons_succ])
          refine wpAnyH_take (i := 9) (oi := ⟨some 57, _, _, _, _, _⟩) (v := undef) rfl (by kernel_rfl) (by kernel_rfl) (by kernel_rfl) (fun _ _ _ h => h) (Or.inr ⟨by rfl, rfl⟩) (by assumption) ?_
          (try simp only [Act.put, List.setIfInBounds_toArray, List.set_cons_zero, List.set_cons_succ])
          refine wpAnyH_take (i := 5) (oi := ⟨some 53, _, _, _, _, _⟩) (v := undef) rfl (by kernel_rfl) (by kernel_rfl) (by kernel_rfl) (fun _ _ _ h => h) (Or.inr ⟨by rfl, rfl⟩) (by assumption) ?_
          (try simp only [Act.put, List.setIfInBounds_toArray, List.set_cons_zero, List.set_cons_succ])
          refine wpAnyH_take (i := 6) (oi := ⟨some 54, _, _, _, _, _⟩) (v := undef) rfl (by kernel_rfl) (by kernel_rfl) (by kernel_rfl) (fun _ _ _ h => h) (Or.inr ⟨by rfl, rfl⟩) (by assumption) ?_
          (try simp only [Act.put, List.setIfInBounds_toArray, List.set_cons_zero, List.set_cons_succ])
          refine wpAnyH_take (i := 7) (oi := ⟨some 55, _, _, _, _, _⟩) (v := undef) rfl (by kernel_rfl) (by kernel_rfl) (by kernel_rfl) (fun _ _ _ h => h) (Or.inr ⟨by rfl, rfl⟩) (by assumption) ?_
          (try simp only [Act.put, List.setIfInBounds_toArray, List.set_cons_zero, List.set_cons_succ])
          refine wpAnyH_take (i := 10) (oi := ⟨some 58, _, _, _, _, _⟩) (v := undef) rfl (by kernel_rfl) (by kernel_rfl) (by kernel_rfl) (fun _ _ _ h => h) (Or.inr ⟨by rfl, rfl⟩) (by assumption) ?_
          (try simp only [Act.put, List.setIfInBounds_toArray, List.set_cons_zero, List.set_cons_succ])
          refine tk 11 59 ?_
          (try simp only [Act.put, List.setIfInBounds_toArray, List.set_cons_zero, List.set_cons_succ])
          refine tk 12 4 ?_
          (try simp only [Act.put, List.setIfInBounds_toArray, List.set_cons_zero, List.set_cons_succ])
          refine wpAnyH_done (by kernel_rfl) ?_ _
          clear hHeld
          go_wp2_with (first | go_big_skip | go_big_guard | fail)
          go_ret
          exact ⟨rfl, hD.nil⟩
        · obtain ⟨j, y, rfl, hy, hfn⟩ := findP_yes hf
          have hv2 := hv.trans (volB_yes hfn hy)
          rw [hv2]
          have hjlt : j < nr := by rw [← HR.out.len]; exact (List.getElem?_eq_some_iff.1 hy).1
          obtain ⟨y', b', o', hy', he, hiny, hry⟩ := RecsIn.at HR.out hjlt
          cases he
          obtain rfl : y = y' := Option.some.inj (hy.symm.trans hy')
          have HY := hid (show w.cell? ⟨lb, lo + j * 44, none⟩ = some (.int .i64 y.2.id) from hry 0 _ rfl)
          clear hv hv2 hf hy hfn hy' hiny hry
          go_enter Try.func79, Try.ntmps79
          go_wp2_with (first | go_big_skip | go_big_guard | (refine wl_boxA hst0 rfl rfl rfl ?_; intro g1 w1 hst1; clear hst0) | (refine wl_index rfl rfl rfl rfl hlt ?_) | (refine wl_loadE rfl rfl rfl ?_; first | refine ⟨_, Loads.at [] hst1 rfl, ?_⟩ | refine ⟨_, Loads.oldA (cs := cellsR x) hst1 HL.out HWR.out, ?_⟩ | refine ⟨_, Loads.atA (tabC t (.slice (some ⟨lb, lo, none⟩) nr cr) lv) [_] hst rfl rfl, ?_⟩ | refine ⟨_, Loads.at [] hst rfl, ?_⟩ | refine ⟨_, Loads.at [] hst (cellsR_41 HLL.out), ?_⟩ | refine ⟨_, Loads.at [_] hst rfl, ?_⟩) | (refine wl_alloc hst1 rfl rfl ?_; intro gx w2 hst2; clear hst1) | (refine wl_storeA [] hst2 rfl rfl rfl rfl (by exact HL.out) (cellsR_ones HIN.out) rfl ?_; intro w3 hst; clear hst2) | (go_at_call 64; refine (indexR_any 90 gx (fun y => y.id == x.2.id) _ i cr (xs.take i) _ (fun _ _ => rfl) (fun y w' hy h => twinC_any (St.old_cell h (hst.cell (g := gx) (off := 0) (.head _) rfl) (by simp)) y (((HT.out.old hst.nil).old h).each y hy)) (HT.out.old hst.nil) (by omega)).mono ?_; rw [← HN1.out]; rintro _ w9 ⟨rfl, h4⟩; replace hst := St.call0 hst h4; clear h4) | (go_at_call 64; refine (indexR_any 91 gx (fun y => (y.id == x.2.origin) && (y.kind == 2)) _ nr cr xs _ (fun _ _ => rfl) (fun y w' hy h => originC_any (St.old_cell h (hst.cell (g := gx) (off := 41) (.head _) (cellsR_41 HLL.out)) (by simp)) y (((HR.out.old hst.nil).old h).each y hy)) (HR.out.old hst.nil) hb).mono ?_; rintro _ w9 ⟨rfl, h4⟩; replace hst := St.call0 hst h4; clear h4) | (go_at_call 39; refine (split_any x.2.name _ HIN.out.2).mono ?_; rintro _ w9 ⟨rfl, h4⟩; replace hst := St.call0 hst h4; clear h4) | (go_at_call 33; refine (find_any t lv (splitL x.2.name).1 _ nr cr xs _ (HR.out.old hst.nil) hb).mono ?_; rw [HF.out]; rintro _ w9 ⟨rfl, h4⟩; replace hst := St.call0 hst h4; clear h4))
          have hD := hst.drew
          clear hst
          refine wp_region_held_drew (S := (fun w' => (loadVarH 22 ⟨g1, 1, none⟩).run Try.prog w' = .ok (.slice (some ⟨lb, lo, none⟩) nr cr) w' ∧ (loadVarH 3 ⟨gx, 40, none⟩).run Try.prog w' = .ok (.int .i64 x.2.own) w' ∧ (loadVarH 3 ⟨lb, lo + j * 44, none⟩).run Try.prog w' = .ok (.int .i64 y.2.id) w')) (by kernel_rfl) (by exact ⟨ldS [_] hD rfl, ldS [] hD (cellsR_40 HLL.out), ldO hD (HY.out)⟩) (fun hHeld => ?_)
          refine tk 0 48 ?_
          (try simp only [Act.put, List.setIfInBounds_toArray, List.set_cons_zero, List.set_cons_succ])
          refine tk 1 49 ?_
          (try simp only [Act.put, List.setIfInBounds_toArray, List.set_cons_zero, List.set_cons_succ])
          refine tk 2 50 ?_
          (try simp only [Act.put, List.setIfInBounds_toArray, List.set_cons_zero, List.set_cons_succ])
          refine tk 4 52 ?_
          (try simp only [Act.put, List.setIfInBounds_toArray, List.set_cons_zero, List.set_cons_succ])
          refine tk 8 56 ?_
          (try simp only [Act.put, List.setIfInBounds_toArray, List.set_cons_zero, List.set_cons_succ])
          refine tk 3 51 ?_
          (try simp only [Act.put, List.setIfInBounds_toArray, List.set_cons_zero, List.set_cons_succ])
          refine tk 9 57 ?_
          (try simp only [Act.put, List.setIfInBounds_toArray, List.set_cons_zero, List.set_cons_succ])
          refine tk 5 53 ?_
          (try simp only [Act.put, List.setIfInBounds_toArray, List.set_cons_zero, List.set_cons_succ])
          refine tk 6 54 ?_
          (try simp only [Act.put, List.setIfInBounds_toArray, List.set_cons_zero, List.set_cons_succ])
          refine tk 7 55 ?_
          (try simp only [Act.put, List.setIfInBounds_toArray, List.set_cons_zero, List.set_cons_succ])
          refine tk 10 58 ?_
          (try simp only [Act.put, List.setIfInBounds_toArray, List.set_cons_zero, List.set_cons_succ])
          refine tk 11 59 ?_
          (try simp only [Act.put, List.setIfInBounds_toArray, List.set_cons_zero, List.set_cons_succ])
          refine tk 12 4 ?_
          (try simp only [Act.put, List.setIfInBounds_toArray, List.set_cons_zero, List.set_cons_succ])
          refine wpAnyH_done (by kernel_rfl) ?_ _
          clear hHeld
          go_wp2_with (first | go_big_skip | go_big_guard | fail)
          go_ret
          exact ⟨rfl, hD.nil⟩
    · have d3 : decide (x.2.id ≥ t.next) = true := decide_eq_true (by omega)
      have d4 : decide (t.next ≤ x.2.id) = true := d3
      have hv : RR = false := by rw [HRR.out]; unfold relB; rw [decide_eq_false k2, Bool.and_false]; rfl
      rw [hv]
      clear hv k2
      go_enter Try.func79, Try.ntmps79
      go_wp2_with (first | go_big_skip | go_big_guard | (refine wl_boxA hst0 rfl rfl rfl ?_; intro g1 w1 hst1; clear hst0) | (refine wl_index rfl rfl rfl rfl hlt ?_) | (refine wl_loadE rfl rfl rfl ?_; first | refine ⟨_, Loads.at [] hst1 rfl, ?_⟩ | refine ⟨_, Loads.oldA (cs := cellsR x) hst1 HL.out HWR.out, ?_⟩ | refine ⟨_, Loads.atA (tabC t (.slice (some ⟨lb, lo, none⟩) nr cr) lv) [_] hst rfl rfl, ?_⟩ | refine ⟨_, Loads.at [] hst rfl, ?_⟩ | refine ⟨_, Loads.at [] hst (cellsR_41 HLL.out), ?_⟩ | refine ⟨_, Loads.at [_] hst rfl, ?_⟩) | (refine wl_alloc hst1 rfl rfl ?_; intro gx w2 hst2; clear hst1) | (refine wl_storeA [] hst2 rfl rfl rfl rfl (by exact HL.out) (cellsR_ones HIN.out) rfl ?_; intro w3 hst; clear hst2) | (go_at_call 64; refine (indexR_any 90 gx (fun y => y.id == x.2.id) _ i cr (xs.take i) _ (fun _ _ => rfl) (fun y w' hy h => twinC_any (St.old_cell h (hst.cell (g := gx) (off := 0) (.head _) rfl) (by simp)) y (((HT.out.old hst.nil).old h).each y hy)) (HT.out.old hst.nil) (by omega)).mono ?_; rw [← HN1.out]; rintro _ w9 ⟨rfl, h4⟩; replace hst := St.call0 hst h4; clear h4) | (go_at_call 64; refine (indexR_any 91 gx (fun y => (y.id == x.2.origin) && (y.kind == 2)) _ nr cr xs _ (fun _ _ => rfl) (fun y w' hy h => originC_any (St.old_cell h (hst.cell (g := gx) (off := 41) (.head _) (cellsR_41 HLL.out)) (by simp)) y (((HR.out.old hst.nil).old h).each y hy)) (HR.out.old hst.nil) hb).mono ?_; rintro _ w9 ⟨rfl, h4⟩; replace hst := St.call0 hst h4; clear h4) | (go_at_call 39; refine (split_any x.2.name _ HIN.out.2).mono ?_; rintro _ w9 ⟨rfl, h4⟩; replace hst := St.call0 hst h4; clear h4) | (go_at_call 33; refine (find_any t lv (splitL x.2.name).1 _ nr cr xs _ (HR.out.old hst.nil) hb).mono ?_; rw [HF.out]; rintro _ w9 ⟨rfl, h4⟩; replace hst := St.call0 hst h4; clear h4))
      go_ret
      exact ⟨rfl, hst.nil⟩
end Go.Proofs.Ytifajcblbedcoaa
namespace Go.Proofs.Ytifajcblbedcoaa
set_option linter.unusedVariables false
set_option linter.unusedSimpArgs false
open Go.RowKit Hp
set_option maxHeartbeats 400000
theorem nothing_any (sv : Value) (b l : Int) (S : List UInt8) (w : World) (hS : L32 S) :
    Calls Try.prog 72 #[.agg (ptrCells sv b l S).toArray] w fun e w' => e = .returned (.bool (nothingB b l S)) ∧ St w [] w' [] := by
  go_enter Try.func72, Try.ntmps72
  have hst := St.refl w
  go_wp2_with (first | go_big_skip | go_big_guard | (refine wl_boxA hst rfl rfl rfl ?_; intro g w1 hst1; clear hst) | (refine wl_loadE rfl rfl rfl ?_; first | refine ⟨_, Loads.at [] hst1 rfl, ?_⟩ | refine ⟨_, Loads.atA (bytesV S) [] hst1 (hS.v) (ptr_sum _ _ _ _), ?_⟩) | (refine wl_build0 rfl rfl ?_) | (refine wl_eql_bytes rfl rfl rfl rfl (hS.two L32.nones) ?_))
  all_goals (go_ret; exact ⟨ret_bool (by simp [nothingB, *]), hst1.nil⟩)
theorem hole_any (ao : Option Addr) (n c : Nat) (b l : Int) (S : List UInt8) (w : World) (hS : L32 S) :
    Calls Try.prog 51 #[.agg (ptrCells (.slice ao n c) b l S).toArray] w fun e w' => e = .returned (.bool (holeB n b l S)) ∧ St w [] w' [] := by
  go_enter Try.func51, Try.ntmps51
  have hst := St.refl w
  go_wp2_with (first | go_big_skip | go_big_guard | (refine wl_boxA hst rfl rfl rfl ?_; intro g w1 hst1; clear hst) | (refine wl_loadE rfl rfl rfl ?_; first | refine ⟨_, Loads.at [] hst1 rfl, ?_⟩ | refine ⟨_, Loads.atA (ptrCells (.slice ao n c) b l S) [] hst1 (ptr_len hS _ _ _) (ptr_all _ _ _ _), ?_⟩) | (go_at_call 72; refine (nothing_any _ _ _ _ _ hS).mono ?_; rintro _ _ ⟨rfl, hcall⟩; replace hst1 := St.call0 hst1 hcall; clear hcall))
  all_goals (go_ret; exact ⟨ret_bool (by grind [holeB]), hst1.nil⟩)
end Go.Proofs.Ytifajcblbedcoaa
namespace Go.Proofs.Ytifajcblbedcoaa
set_option linter.unusedVariables false
set_option linter.unusedSimpArgs false
open Go.RowKit Hp
set_option maxHeartbeats 400000
theorem may_any (ao : Option Addr) (n c : Nat) (l : List (Int × Int)) (w : World) (hA : Rd w (.slice ao n c) 2 n (addrsV l)) (hn : l.length = n) :
    Calls Try.prog 73 #[.slice ao n c] w fun e w' => e = .returned (.bool (mayB l)) ∧ St w [] w' [] := by
  have hbd := hA.bd
  have hbd1 := hbd.1
  have hbd2 := hbd.2.1
  clear hbd
  have Hn := hid hn; clear hn
  go_enter Try.func73, Try.ntmps73
  have hst := St.refl w
  go_wp2_with (first | go_big_skip | go_big_guard | (refine wl_alloc hst rfl rfl ?_; intro g w1 hst1; clear hst))
  go_loopw [8] (fun i wr => ∃ k : Nat, k ≤ n ∧ i = .int .i64 k ∧ okP l k = true ∧ St w [] wr [.blk g 107 (seenV (l.take k))]) (fun i _ => n - (intOf i).toNat)
  case atStart => exact ⟨0, Nat.zero_le _, rfl, okP_zero l, hst1⟩
  case round =>
    obtain ⟨k, hk, rfl, hok, hst2⟩ := hrel
    clear hst1
    by_cases hlt : k < n
    · obtain ⟨b, off, rfl, hr⟩ := hA.at hlt
      obtain ⟨x, hx⟩ : ∃ x, x = l.getD k (0, 0) := ⟨_, rfl⟩
      have hb := addr_both hr (k := k) (by rw [Hn.out]; exact hlt)
      rw [← hx] at hb
      have Hx := hid hx; clear hx
      have Hok := hid hok; clear hok
      go_wp2_with (first | go_big_skip | go_big_guard | (refine wl_index rfl rfl rfl rfl (hlt) ?_) | (refine wl_loadE rfl rfl rfl ?_; first | refine ⟨_, Loads.oldA hst2 rfl (hb), ?_⟩) | (refine wl_alloc hst2 rfl rfl ?_; intro ga w3 hst3; clear hst2) | (refine wl_store [] hst3 rfl rfl rfl (v := .agg (List.toArray _)) rfl rfl rfl ?_ ?_; (exact Nat.le_refl _); intro w4 hst4; clear hst3; (simp [putAt] at hst4)) | (refine wl_store [_] hst4 rfl rfl rfl (v := .bool _) rfl rfl rfl ?_ ?_; ((rw [length_seenV]; show x.fst.toNat + 1 ≤ 8; omega)); intro w5 hst5; clear hst4; (skip)) | (refine wl_loadE rfl rfl rfl ?_; first | refine ⟨_, Loads.at [] hst4 rfl, ?_⟩ | refine ⟨_, Loads.at [_] hst4 (seenV_get _ (by omega)), ?_⟩))
      all_goals first
        | (go_ret; exact ⟨ret_bool (may_stop1 (by rw [Hn.out]; exact hlt) Hx.out (by omega)).symm, hst4.nil⟩)
        | (go_ret; exact ⟨ret_bool (may_stop2 (by rw [Hn.out]; exact hlt) Hx.out (by omega) (by assumption)).symm, hst4.nil⟩)
        | (have hgo := may_go (by rw [Hn.out]; exact hlt) Hx.out Hok.out (by omega) (by omega) (by omega) (by omega) (by assumption)
           go_roundw
           case rel => exact ⟨k + 1, by omega, by go_num, hgo.1, by rw [← hgo.2]; exact hst5.sub (List.sublist_append_right _ _)⟩
           case measure => simp [intOf]; omega)
        | skip
      go_goals
      go_ways
    · have hkn : k = n := by omega
      have hme := may_end (l := l) (k := k) (by rw [Hn.out]; omega) hok
      rw [Hn.out] at hme
      have Hm := hid hme; clear hme hok
      go_wp2_with (first | go_big_skip | go_big_guard | fail)
      all_goals (go_ret; exact ⟨ret_bool (by rw [Hm.out]; grind), hst2.nil⟩)
end Go.Proofs.Ytifajcblbedcoaa
namespace Go.Proofs.Ytifajcblbedcoaa
set_option linter.unusedVariables false
set_option linter.unusedSimpArgs false
open Go.RowKit Hp
set_option maxHeartbeats 400000
end Go.Proofs.Ytifajcblbedcoaa
namespace Go.Proofs.Ytifajcblbedcoaa
set_option linter.unusedVariables false
set_option linter.unusedSimpArgs false
open Go.RowKit Hp
set_option maxHeartbeats 400000

theorem sameAddrs_any (ao ao' : Option Addr) (n c n' c' : Nat) (l r : List (Int × Int)) (w : World) (hA : Rd w (.slice ao n c) 2 n (addrsV l)) (hn : l.length = n) (hB : Rd w (.slice ao' n' c') 2 n' (addrsV r)) (hn' : r.length = n') :
    Calls Try.prog 57 #[.slice ao n c, .slice ao' n' c'] w fun e w' => e = .returned (.bool (l == r)) ∧ St w [] w' [] := by
  have hbd1 := hA.bd.1
  have hbd2 := hA.bd.2.1
  have hbd3 := hB.bd.1
  have hbd4 := hB.bd.2.1
  have Hn := hid hn; clear hn
  have Hn' := hid hn'; clear hn'
  have hst := St.refl w
  by_cases hnn : n = n'
  rotate_left
  · have hne := hid (addrs_len_ne (l := l) (k := r) (by rw [Hn.out, Hn'.out]; exact hnn))
    go_enter Try.func57, Try.ntmps57
    go_wp2_with (first | go_big_skip | go_big_guard | fail)
    go_ret
    exact ⟨ret_bool hne.out.symm, hst⟩
  subst hnn
  go_enter Try.func57, Try.ntmps57
  go_wp2_with (first | go_big_skip | go_big_guard | fail)
  go_loopw [5] (fun i wr => ∃ k : Nat, k ≤ n ∧ i = .int .i64 k ∧ Hid (∀ q, q < k → l.getD q (0, 0) = r.getD q (0, 0)) ∧ St w [] wr []) (fun i _ => n - (intOf i).toNat)
  case atStart => exact ⟨0, Nat.zero_le _, rfl, hid (fun q hq => by omega), hst⟩
  case round =>
    obtain ⟨k, hk, rfl, hq, hst2⟩ := hrel
    clear hst
    by_cases hlt : k < n
    · obtain ⟨b, off, rfl, hr⟩ := hA.at hlt
      obtain ⟨b', off', rfl, hr'⟩ := hB.at hlt
      obtain ⟨x, hx⟩ : ∃ x, x = l.getD k (0, 0) := ⟨_, rfl⟩
      obtain ⟨y, hy⟩ : ∃ y, y = r.getD k (0, 0) := ⟨_, rfl⟩
      have hc1 := hst2.old_cell (addr_dev hr (k := k) (by rw [Hn.out]; omega)) (by simp)
      have hc2 := hst2.old_cell (addr_at hr (k := k) (by rw [Hn.out]; omega)) (by simp)
      have hc3 := hst2.old_cell (addr_dev hr' (k := k) (by rw [Hn'.out]; omega)) (by simp)
      have hc4 := hst2.old_cell (addr_at hr' (k := k) (by rw [Hn'.out]; omega)) (by simp)
      rw [← hx] at hc1 hc2
      rw [← hy] at hc3 hc4
      have Hx := hid hx; clear hx
      have Hy := hid hy; clear hy
      go_wp2_with (first | go_big_skip | go_big_guard | fail)
      go_quiet (fail)
      go_wp2_with (first | go_big_skip | go_big_guard | fail)
      · go_ret
        exact ⟨ret_bool (addrs_ne (q := k) (by rw [← Hx.out, ← Hy.out]; exact pair_ne (by assumption))).symm, hst2.drewN _⟩
      · go_roundw
        case rel =>
          refine ⟨k + 1, by omega, by go_num, hid (fun q hqk => ?_), hst2.drewN _⟩
          rcases Nat.lt_or_eq_of_le (Nat.le_of_lt_succ hqk) with h | rfl
          · exact hq.out q h
          · rw [← Hx.out, ← Hy.out]; exact pair_ext (by assumption)
        case measure => simp [intOf]; omega
    · have hkn : k = n := by omega
      have hall := hid (addrs_ext (l := l) (k := r) (by rw [Hn.out, Hn'.out]) (fun q hql => hq.out q (by rw [Hn.out] at hql; omega)))
      go_wp2_with (first | go_big_skip | go_big_guard | fail)
      go_ret
      exact ⟨ret_bool (by rw [hall.out]; simp), hst2⟩

end Go.Proofs.Ytifajcblbedcoaa
namespace Go.Proofs.Ytifajcblbedcoaa
set_option linter.unusedVariables false
set_option linter.unusedSimpArgs false
open Go.RowKit Hp
set_option maxHeartbeats 400000
theorem check_any (ao : Option Addr) (n c : Nat) (l : List (Int × Int)) (b v : Int) (S : List UInt8) (w : World) (hS : L32 S) (hA : Rd w (.slice ao n c) 2 n (addrsV l)) (hn : l.length = n) :
    Calls Try.prog 52 #[.agg (ptrCells (.slice ao n c) b v S).toArray] w fun e w' => e = .returned (.int .i64 (checkE l b v S)) ∧ St w [] w' [] := by
  have Hn := hid hn; clear hn
  go_enter Try.func52, Try.ntmps52
  have hst := St.refl w
  go_wp2_with (first | go_big_skip | go_big_guard | (refine wl_boxA hst rfl rfl rfl ?_; intro g w1 hst1; clear hst) | (refine wl_loadE rfl rfl rfl ?_; first | refine ⟨_, Loads.at [] hst1 rfl, ?_⟩ | refine ⟨_, Loads.atA (ptrCells (.slice ao n c) b v S) [] hst1 (ptr_len hS _ _ _) (ptr_all _ _ _ _), ?_⟩) | (go_at_call 51; refine (hole_any _ _ _ _ _ _ _ hS).mono ?_; rintro _ _ ⟨rfl, hcall⟩; replace hst1 := St.call0 hst1 hcall; clear hcall) | (go_at_call 73; refine (may_any _ _ _ l _ (Rd.old hst1 hA) Hn.out).mono ?_; rintro _ _ ⟨rfl, hcall⟩; replace hst1 := St.call0 hst1 hcall; clear hcall))
  all_goals (go_ret; exact ⟨ret_int (by have := Hn.out; unfold checkE checkB; grind), hst1.nil⟩)
end Go.Proofs.Ytifajcblbedcoaa
namespace Go.Proofs.Ytifajcblbedcoaa
set_option linter.unusedVariables false
set_option linter.unusedSimpArgs false
open Go.RowKit Hp
attribute [local irreducible] Go.Calls
set_option maxHeartbeats 1000000
def markB (i : Nat) : UInt8 := UInt8.ofNat (160 + i % 90)
def markV (i : Nat) : Value := .int .u8 ((markB i).toNat : Int)
def lentT (n : Nat) : Nat → List Value
  | 0 => [.int .u8 0, .int .u8 0, .int .u8 0]
  | 1 => [markV n, .int .u8 0, .int .u8 0]
  | 2 => [markV n, markV (n + 1), .int .u8 0]
  | _ => [markV n, markV (n + 1), markV (n + 2)]
def lentB (bs : List UInt8) : List UInt8 := bs ++ [markB bs.length, markB (bs.length + 1), markB (bs.length + 2)]
theorem lentB_V (bs : List UInt8) : bytesV (lentB bs) = bytesV bs ++ lentT bs.length 3 := by simp [lentB, bytesV, lentT, markV]
theorem length_lentB (bs : List UInt8) : (lentB bs).length = bs.length + 3 := by simp [lentB]
theorem put_app (a t : List Value) (j : Nat) (vs : List Value) : putAt (a ++ t) (a.length + j) vs = a ++ putAt t j vs := by
  simp only [putAt, Nat.add_assoc, List.append_assoc]
  rw [List.take_append, List.drop_append, List.take_of_length_le (by omega), List.drop_of_length_le (by omega)]
  simp [Nat.add_sub_cancel_left]
theorem len_lentT (n j : Nat) : (lentT n j).length = 3 := by
  match j with
  | 0 => rfl
  | 1 => rfl
  | 2 => rfl
  | _ + 3 => rfl
theorem put_lent (bs : List UInt8) (k j : Nat) (hk : k = bs.length + j) (hj : j < 3) : putAt (bytesV bs ++ lentT bs.length j) k [markV k] = bytesV bs ++ lentT bs.length (j + 1) := by
  subst hk
  have := put_app (bytesV bs) (lentT bs.length j) j [markV (bs.length + j)]
  rw [length_bytesV] at this
  rw [this]
  congr 1
  match j, hj with
  | 0, _ => rfl
  | 1, _ => rfl
  | 2, _ => rfl
end Go.Proofs.Ytifajcblbedcoaa
namespace Go.Proofs.Ytifajcblbedcoaa
set_option linter.unusedVariables false
set_option linter.unusedSimpArgs false
open Go.RowKit Hp
attribute [local irreducible] Go.Calls
set_option maxHeartbeats 1000000
end Go.Proofs.Ytifajcblbedcoaa
namespace Go.Proofs.Ytifajcblbedcoaa
set_option linter.unusedVariables false
set_option linter.unusedSimpArgs false
open Go.RowKit Hp
set_option maxHeartbeats 400000
theorem isB_one (n : Int) : ([Value.int .u8 (n % 256)]).all isB = true := by
  simp [isB]; omega
end Go.Proofs.Ytifajcblbedcoaa
namespace Go.Proofs.Ytifajcblbedcoaa
set_option linter.unusedVariables false
set_option linter.unusedSimpArgs false
open Go.RowKit Hp
attribute [local go_sem ↓] Go.wp_at_zero Go.wp_at_succ
attribute [local irreducible] Go.Calls
set_option maxRecDepth 100000
set_option maxHeartbeats 1000000
end Go.Proofs.Ytifajcblbedcoaa
namespace Go.Proofs.Ytifajcblbedcoaa
set_option linter.unusedVariables false
set_option linter.unusedSimpArgs false
open Go.RowKit Hp
attribute [local irreducible] Go.Calls
set_option maxHeartbeats 1000000
end Go.Proofs.Ytifajcblbedcoaa
namespace Go.Proofs.Ytifajcblbedcoaa
set_option linter.unusedVariables false
set_option linter.unusedSimpArgs false
open Go.RowKit Hp
attribute [local go_sem ↓] Go.wp_at_zero Go.wp_at_succ
attribute [local irreducible] Go.Calls
set_option maxHeartbeats 1000000
end Go.Proofs.Ytifajcblbedcoaa
