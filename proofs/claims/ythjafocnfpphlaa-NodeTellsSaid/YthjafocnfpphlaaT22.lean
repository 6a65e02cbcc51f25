import Derived.Test.YthjafocnfpphlaaT21
namespace Go.Proofs.Ythjafocnfpphlaa
open Go.RowKit Hp
attribute [local irreducible] Go.Calls
set_option maxHeartbeats 2000000
theorem loadedI (A : Addr) : loadVar 3 A = loadVarH 3 A := rfl
theorem NV.at_v {x : NV} (h : x.Ln) {k : Nat} (hk : k < 4) : x.cells[1 + k * 35 + 2]? = some (.int .i64 (x.get k).v) := by
  have h1 := NV.at' h hk
  have h2 : ((x.cells.drop (1 + k * 35)).take (x.get k).cells.length)[2]? = (x.get k).cells[2]? := by rw [h1]
  rw [List.getElem?_take_of_lt (by rw [PV.len (h k)]; omega), List.getElem?_drop] at h2
  rw [h2]; rfl
theorem NV.at_sv {x : NV} (h : x.Ln) {k : Nat} (hk : k < 4) : x.cells[1 + k * 35]? = some (x.get k).sv := by
  have h1 := NV.at' h hk
  have h2 : ((x.cells.drop (1 + k * 35)).take (x.get k).cells.length)[0]? = (x.get k).cells[0]? := by rw [h1]
  rw [List.getElem?_take_of_lt (by rw [PV.len (h k)]; omega), List.getElem?_drop, Nat.add_zero] at h2
  rw [h2]; rfl
theorem fits_any (p : PV) (lv : Int) (w : World) (hp : p.In w) (h1 : 1 ≤ lv) (h3 : lv ≤ 3) : Calls Try.prog 59 #[.agg p.cells.toArray, .int .i64 lv] w fun e w' => e = .returned (.bool (p.fits lv)) ∧ St w [] w' [] := by
  have hst := St.refl w
  have hS := hp.1
  cases hh : p.hole with
  | true =>
    go_enter Try.func59, Try.ntmps59
    go_wp2_with (first | go_big_skip | go_big_guard | (refine wl_loadE rfl rfl rfl ?_; first | refine ⟨_, Loads.atA (p.cells) [] hst1 (PV.len hS) (by simp), ?_⟩) | (refine wl_boxA hst rfl rfl rfl ?_; intro g w1 hst1; clear hst) | (go_at_call 27; refine (hole_pv p _ (PV.In.old hst1 hp)).mono ?_; rw [hh]; rintro _ _ ⟨rfl, h4⟩; replace hst1 := St.call0 hst1 h4; clear h4))
    go_ret
    exact ⟨ret_bool (by simp [PV.fits, hh]), hst1.nil⟩
  | false =>
    cases ho : p.ok with
    | true =>
      go_enter Try.func59, Try.ntmps59
      go_wp2_with (first | go_big_skip | go_big_guard | (refine wl_loadE rfl rfl rfl ?_; first | refine ⟨_, Loads.atA (p.cells) [] hst1 (PV.len hS) (by simp), ?_⟩ | refine ⟨_, Loads.at [] hst1 rfl, ?_⟩) | (refine wl_boxA hst rfl rfl rfl ?_; intro g w1 hst1; clear hst) | (go_at_call 27; refine (hole_pv p _ (PV.In.old hst1 hp)).mono ?_; rw [hh]; rintro _ _ ⟨rfl, h4⟩; replace hst1 := St.call0 hst1 h4; clear h4) | (go_at_call 22; refine (check_pv p _ (PV.In.old hst1 hp)).mono ?_; rw [ho, if_pos rfl]; rintro _ _ ⟨rfl, h4⟩; replace hst1 := St.call0 hst1 h4; clear h4))
      go_ret
      exact ⟨ret_bool (by simp [PV.fits, hh, ho]; rw [Bool.eq_iff_iff]; simp), hst1.nil⟩
    | false =>
      have e2 : (if false = true then (0 : Int) else 2) = 2 := rfl
      go_enter Try.func59, Try.ntmps59
      go_wp2_with (first | go_big_skip | go_big_guard | (refine wl_loadE rfl rfl rfl ?_; first | refine ⟨_, Loads.atA (p.cells) [] hst1 (PV.len hS) (by simp), ?_⟩ | refine ⟨_, Loads.at [] hst1 rfl, ?_⟩) | (refine wl_boxA hst rfl rfl rfl ?_; intro g w1 hst1; clear hst) | (go_at_call 27; refine (hole_pv p _ (PV.In.old hst1 hp)).mono ?_; rw [hh]; rintro _ _ ⟨rfl, h4⟩; replace hst1 := St.call0 hst1 h4; clear h4) | (go_at_call 22; refine (check_pv p _ (PV.In.old hst1 hp)).mono ?_; rw [ho, if_neg Bool.false_ne_true]; rintro _ _ ⟨rfl, h4⟩; replace hst1 := St.call0 hst1 h4; clear h4))
      go_ret
      exact ⟨ret_bool (by simp [PV.fits, hh, ho]), hst1.nil⟩
theorem big_any (x : NV) (w : World) (hx : x.In w) : Calls Try.prog 38 #[.agg x.cells.toArray] w fun e w' => e = .returned (.bool x.big) ∧ St w [] w' [] := by
  have hst := St.refl w
  have hL := hx.ln
  go_enter Try.func38, Try.ntmps38
  go_wp2_with (first | go_big_skip | go_big_guard | (refine wl_boxA hst rfl rfl rfl ?_; intro g w1 hst1; clear hst))
  go_loopw [3] (fun i wr => ∃ k : Nat, k ≤ 4 ∧ i = .int .i64 k ∧ Hid (∀ j, j < k → decide (20 < (x.get j).l.length) = false) ∧ St w [] wr [.blk g 51 x.cells]) (fun i _ => 4 - (intOf i).toNat)
  case atStart => exact ⟨0, by omega, rfl, hid (fun j h => absurd h (by omega)), hst1⟩
  case round =>
    clear hst1
    obtain ⟨k, hk, rfl, hno, hst⟩ := hrel
    by_cases hk4 : k < 4
    · obtain ⟨_, ao, n, c, hsv, _, hn⟩ := hx k
      have hcell := NV.at_sv hL hk4
      rw [hsv] at hcell
      have HC := hid hcell
      have HN := hid hn
      clear hcell hn hsv
      go_wp2_with (first | go_big_skip | go_big_guard | (refine wl_loadE rfl rfl rfl ?_; refine ⟨_, Loads.at [] hst HC.out, ?_⟩))
      · have hb : (20 : Int) < n := by assumption
        have hb2 : decide (20 < (x.get k).l.length) = true := by rw [HN.out]; simp; omega
        go_ret
        exact ⟨(ret_bool (any4 (f := fun p => decide (20 < p.l.length)) hk4 hb2)).symm, hst.nil⟩
      · have hb : ¬ (20 : Int) < n := by omega
        have hb2 : decide (20 < (x.get k).l.length) = false := by rw [HN.out]; simp; omega
        go_roundw
        case rel => exact ⟨k + 1, by omega, by go_num, hid (all_step_no (f := fun j => decide (20 < (x.get j).l.length)) hno.out hb2), hst⟩
        case measure => simp [intOf]; omega
    · have hq := hid (any4_no (f := fun p => decide (20 < p.l.length)) (fun j hj => hno.out j (by omega)) : x.big = false)
      clear hno
      go_wp2_with (first | go_big_skip | go_big_guard | fail)
      go_ret
      exact ⟨(ret_bool hq.out).symm, hst.nil⟩
end Go.Proofs.Ythjafocnfpphlaa
