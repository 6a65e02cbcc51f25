import Derived.Test.YthjafocnfpphlaaNode
import Derived.Test.YthjafocnfpphlaaT19
import Derived.Test.YthjafocnfpphlaaT17
namespace Go.Proofs.Ythjafocnfpphlaa
open Go.RowKit Hp
attribute [local irreducible] Go.Calls
set_option maxHeartbeats 2000000
instance tyS51 : TyN Try.prog 51 141 := ⟨by kernel_rfl⟩
instance tyA51 : TyA Try.prog 51 141 := ⟨by kernel_rfl⟩
theorem PV.open {w : World} {p : PV} (h : p.In w) : ∃ ao n c, p.cells = ptrCells (.slice ao n c) p.b p.v p.S ∧ Rd w (.slice ao n c) 2 n (addrsV p.l) ∧ p.l.length = n := by
  obtain ⟨_, ao, n, c, e, h1, h2⟩ := h
  exact ⟨ao, n, c, by rw [PV.cells, e], h1, h2⟩
section
variable (p q : PV) (w : World) (hp : p.In w) (hq : q.In w)
include hp
theorem hole_pv : Calls Try.prog 27 #[.agg p.cells.toArray] w fun e w' => e = .returned (.bool p.hole) ∧ St w [] w' [] := by
  obtain ⟨ao, n, c, e, h1, h2⟩ := PV.open hp
  rw [e, PV.hole, h2]
  exact hole_any ao n c p.b p.v p.S w hp.1
theorem refHole_pv : Calls Try.prog 28 #[.agg p.cells.toArray] w fun e w' => e = .returned (.bool p.hole) ∧ St w [] w' [] := by
  obtain ⟨ao, n, c, e, h1, h2⟩ := PV.open hp
  rw [e, PV.hole, h2]
  exact refHole_any ao n c p.b p.v p.S w hp.1
theorem check_pv : Calls Try.prog 22 #[.agg p.cells.toArray] w fun e w' => e = .returned (.int .i64 (if p.ok then 0 else 2)) ∧ St w [] w' [] := by
  obtain ⟨ao, n, c, e, h1, h2⟩ := PV.open hp
  rw [e, PV.ok]
  exact check_any ao n c p.l p.b p.v p.S w hp.1 h1 h2
theorem refCheck_pv : Calls Try.prog 26 #[.agg p.cells.toArray] w fun e w' => e = .returned (.int .i64 (if p.ok then 0 else 2)) ∧ St w [] w' [] := by
  obtain ⟨ao, n, c, e, h1, h2⟩ := PV.open hp
  rw [e, PV.ok]
  exact refCheck_any ao n c p.l p.b p.v p.S w hp.1 h1 h2
theorem bytes_pv (hc : p.ok = true) : Calls Try.prog 19 #[.agg p.cells.toArray] w fun e w' => ∃ u, e = .returned (.tuple #[u, .int .i64 0]) ∧ St w [] w' [.row u 5 1 47 (bytesV p.bytes)] := by
  obtain ⟨ao, n, c, e, h1, h2⟩ := PV.open hp
  rw [e, PV.bytes]
  exact bytes_ok ao n c p.l p.b p.v p.S w hp.1 h1 h2 hc
theorem refBytes_pv (hc : p.ok = true) : Calls Try.prog 25 #[.agg p.cells.toArray] w fun e w' => ∃ u, e = .returned (.tuple #[u, .int .i64 0]) ∧ St w [] w' [.row u 5 1 47 (bytesV p.bytes)] := by
  obtain ⟨ao, n, c, e, h1, h2⟩ := PV.open hp
  rw [e, PV.bytes]
  exact refBytes_ok ao n c p.l p.b p.v p.S w hp.1 h1 h2 hc
include hq
theorem same_pv : Calls Try.prog 17 #[.agg p.cells.toArray, .agg q.cells.toArray] w fun e w' => e = .returned (.bool (p.same q)) ∧ St w [] w' [] := by
  obtain ⟨ao, n, c, e, h1, h2⟩ := PV.open hp
  obtain ⟨ao', n', c', e', h1', h2'⟩ := PV.open hq
  rw [e, e', PV.same]
  exact samePointer_any ao ao' n c n' c' p.l q.l p.b p.v q.b q.v p.S q.S w hp.1 hq.1 h1 h2 h1' h2'
end
theorem neg_true {b : Bool} (h : (!b) = true) : b = false := by simpa using h
theorem neg_false {b : Bool} (h : (!b) = false) : b = true := by simpa using h
theorem all_step {f : Nat → Bool} {k : Nat} (h : ∀ j, j < k → f j = true) (hk : f k = true) : ∀ j, j < k + 1 → f j = true := fun j hj => by
  by_cases e : j = k
  · rw [e]; exact hk
  · exact h j (by omega)
theorem all_step_no {f : Nat → Bool} {k : Nat} (h : ∀ j, j < k → f j = false) (hk : f k = false) : ∀ j, j < k + 1 → f j = false := fun j hj => by
  by_cases e : j = k
  · rw [e]; exact hk
  · exact h j (by omega)
theorem empty_any (x : NV) (w : World) (hx : x.In w) : Calls Try.prog 44 #[.agg x.cells.toArray] w fun e w' => e = .returned (.bool x.empty) ∧ St w [] w' [] := by
  have hst := St.refl w
  have hL := hx.ln
  go_enter Try.func44, Try.ntmps44
  go_wp2_with (first | go_big_skip | go_big_guard | (refine wl_boxA hst rfl rfl rfl ?_; intro g w1 hst1; clear hst))
  go_loopw [4] (fun i wr => ∃ k : Nat, k ≤ 4 ∧ i = .int .i64 k ∧ Hid (∀ j, j < k → (x.get j).hole = true) ∧ St w [] wr [.blk g 51 x.cells]) (fun i _ => 4 - (intOf i).toNat)
  case atStart => exact ⟨0, by omega, rfl, hid (fun j h => absurd h (by omega)), hst1⟩
  case round =>
    clear hst1
    obtain ⟨k, hk, rfl, hno, hst⟩ := hrel
    by_cases hk4 : k < 4
    · go_wp2_with (first | go_big_skip | go_big_guard | (refine wl_loadE rfl rfl rfl ?_; first | refine ⟨_, Loads.atA ((x.get k).cells) [] hst (PV.len (hL k)) (NV.at' hL hk4), ?_⟩ | refine ⟨_, Loads.at [] hst rfl, ?_⟩) | (go_at_call 27; refine (hole_pv (x.get k) _ (PV.In.old hst (hx k))).mono ?_; rintro _ _ ⟨rfl, h4⟩; replace hst := St.call0 hst h4; clear h4))
      · have hb := neg_true (b := (x.get k).hole) (by assumption)
        go_ret
        exact ⟨(ret_bool (all4_no (f := PV.hole) hk4 hb)).symm, hst.nil⟩
      · have hb := neg_false (b := (x.get k).hole) (by assumption)
        go_roundw
        case rel => exact ⟨k + 1, by omega, by go_num, hid (all_step hno.out hb), hst⟩
        case measure => simp [intOf]; omega
    · have hq := hid (all4.2 (fun j hj => hno.out j (by omega)) : x.empty = true)
      clear hno
      go_wp2_with (first | go_big_skip | go_big_guard | fail)
      go_ret
      exact ⟨(ret_bool hq.out).symm, hst.nil⟩
theorem refEmpty_any (x : NV) (w : World) (hx : x.In w) : Calls Try.prog 45 #[.agg x.cells.toArray] w fun e w' => e = .returned (.bool x.empty) ∧ St w [] w' [] := by
  have hst := St.refl w
  have hL := hx.ln
  go_enter Try.func45, Try.ntmps45
  go_wp2_with (first | go_big_skip | go_big_guard | (refine wl_boxA hst rfl rfl rfl ?_; intro g w1 hst1; clear hst))
  go_loopw [3] (fun i wr => ∃ k : Nat, k ≤ 4 ∧ i = .int .i64 k ∧ Hid (∀ j, j < k → (x.get j).hole = true) ∧ St w [] wr [.blk g 51 x.cells]) (fun i _ => 4 - (intOf i).toNat)
  case atStart => exact ⟨0, by omega, rfl, hid (fun j h => absurd h (by omega)), hst1⟩
  case round =>
    clear hst1
    obtain ⟨k, hk, rfl, hno, hst⟩ := hrel
    by_cases hk4 : k < 4
    · go_wp2_with (first | go_big_skip | go_big_guard | (refine wl_loadE rfl rfl rfl ?_; first | refine ⟨_, Loads.atA ((x.get k).cells) [] hst (PV.len (hL k)) (NV.at' hL hk4), ?_⟩ | refine ⟨_, Loads.at [] hst rfl, ?_⟩) | (go_at_call 28; refine (refHole_pv (x.get k) _ (PV.In.old hst (hx k))).mono ?_; rintro _ _ ⟨rfl, h4⟩; replace hst := St.call0 hst h4; clear h4))
      · have hb := neg_true (b := (x.get k).hole) (by assumption)
        go_ret
        exact ⟨(ret_bool (all4_no (f := PV.hole) hk4 hb)).symm, hst.nil⟩
      · have hb := neg_false (b := (x.get k).hole) (by assumption)
        go_roundw
        case rel => exact ⟨k + 1, by omega, by go_num, hid (all_step hno.out hb), hst⟩
        case measure => simp [intOf]; omega
    · have hq := hid (all4.2 (fun j hj => hno.out j (by omega)) : x.empty = true)
      clear hno
      go_wp2_with (first | go_big_skip | go_big_guard | fail)
      go_ret
      exact ⟨(ret_bool hq.out).symm, hst.nil⟩
end Go.Proofs.Ythjafocnfpphlaa
