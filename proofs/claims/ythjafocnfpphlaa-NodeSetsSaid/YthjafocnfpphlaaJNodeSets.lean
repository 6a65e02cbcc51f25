/- PROVED: the law NodeSets returns true at any input, and nothing that was there has turned. No condition. -/
import Derived.Test.YthjafocnfpphlaaT34
import Derived.Test.YthjafocnfpphlaaT28
import Derived.Test.YthjafocnfpphlaaNodeS
import Derived.Test.YthjafocnfpphlaaNodeO
import Derived.Test.YthjafocnfpphlaaPost
import Derived.Test.YthjafocnfpphlaaOpenN
import Derived.Test.YthjafocnfpphlaaOpenP
import Derived.Test.YthjafocnfpphlaaOpenB
namespace Go.Proofs.Ythjafocnfpphlaa
open Go.RowKit Hp
attribute [local irreducible] Go.Calls
set_option maxHeartbeats 4000000
set_option maxRecDepth 100000
theorem sets_far (x : NV) (z : Int) (ao : Option Addr) (n c : Nat) (l : List (Int × Int)) (b v : Int) (S : List UInt8) (w : World) (hx : x.In w) (hp : PV.In w ⟨.slice ao n c, l, b, v, S⟩) (hfar : x.big = true ∨ (20 : Int) < n) :
    Calls Try.prog 12 #[.agg x.cells.toArray, .int .i64 z, .agg (PV.cells ⟨.slice ao n c, l, b, v, S⟩).toArray] w fun e w' => e = .returned (.bool true) ∧ St w [] w' [] := by
  have hst := St.refl w
  have Hfar := hid hfar
  clear hfar
  cases hb : x.big with
  | true =>
    go_enter Try.func12, Try.ntmps12
    go_wp2_with (first | go_big_skip | go_big_guard | (refine wl_loadE rfl rfl rfl ?_; first | refine ⟨_, Loads.at [] hst100 rfl, ?_⟩ | refine ⟨_, Loads.atA (x.cells) [] hst100 (NV.len hx.ln) (NV.all x), ?_⟩ | refine ⟨_, Loads.at [] hst101 rfl, ?_⟩ | refine ⟨_, Loads.atA ((PV.cells ⟨.slice ao n c, l, b, v, S⟩)) [] hst101 (PV.len hp.1) (by simp), ?_⟩ | refine ⟨_, Loads.at [_] hst101 rfl, ?_⟩ | refine ⟨_, Loads.atA (x.cells) [_] hst101 (NV.len hx.ln) (NV.all x), ?_⟩ | refine ⟨_, Loads.at [] hst102 rfl, ?_⟩ | refine ⟨_, Loads.atA ((PV.cells ⟨.slice ao n c, l, b, v, S⟩)) [] hst102 (PV.len hp.1) (by simp), ?_⟩ | refine ⟨_, Loads.at [_] hst102 rfl, ?_⟩ | refine ⟨_, Loads.atA (x.cells) [_] hst102 (NV.len hx.ln) (NV.all x), ?_⟩ | refine ⟨_, Loads.at [] hst103 rfl, ?_⟩ | refine ⟨_, Loads.atA ((PV.cells ⟨.slice ao n c, l, b, v, S⟩)) [] hst103 (PV.len hp.1) (by simp), ?_⟩ | refine ⟨_, Loads.at [_] hst103 rfl, ?_⟩ | refine ⟨_, Loads.atA (x.cells) [_] hst103 (NV.len hx.ln) (NV.all x), ?_⟩) | (refine wl_boxA hst rfl rfl rfl ?_; intro g1 _ hst100; clear hst) | (refine wl_boxA hst100 rfl rfl rfl ?_; intro g2 _ hst101; clear hst100) | (go_at_call 10; refine (known5_any _).mono ?_; rintro _ _ ⟨rfl, h4⟩; have hst102 := St.call0 hst101 h4; clear h4 hst101) | (go_at_call 38; refine (big_any x _ (NV.In.old hst102 hx)).mono ?_; rw [hb]; rintro _ _ ⟨rfl, h4⟩; have hst103 := St.call0 hst102 h4; clear h4 hst102))
    all_goals (go_ret; exact ⟨rfl, hst103.nil⟩)
  | false =>
    have k2 : (20 : Int) < n := Hfar.out.resolve_left (by rw [hb]; exact Bool.false_ne_true)
    have k3 : decide ((20 : Int) < n) = true := decide_eq_true k2
    go_enter Try.func12, Try.ntmps12
    go_wp2_with (first | go_big_skip | go_big_guard | (refine wl_loadE rfl rfl rfl ?_; first | refine ⟨_, Loads.at [] hst104 rfl, ?_⟩ | refine ⟨_, Loads.atA (x.cells) [] hst104 (NV.len hx.ln) (NV.all x), ?_⟩ | refine ⟨_, Loads.at [] hst105 rfl, ?_⟩ | refine ⟨_, Loads.atA ((PV.cells ⟨.slice ao n c, l, b, v, S⟩)) [] hst105 (PV.len hp.1) (by simp), ?_⟩ | refine ⟨_, Loads.at [_] hst105 rfl, ?_⟩ | refine ⟨_, Loads.atA (x.cells) [_] hst105 (NV.len hx.ln) (NV.all x), ?_⟩ | refine ⟨_, Loads.at [] hst106 rfl, ?_⟩ | refine ⟨_, Loads.atA ((PV.cells ⟨.slice ao n c, l, b, v, S⟩)) [] hst106 (PV.len hp.1) (by simp), ?_⟩ | refine ⟨_, Loads.at [_] hst106 rfl, ?_⟩ | refine ⟨_, Loads.atA (x.cells) [_] hst106 (NV.len hx.ln) (NV.all x), ?_⟩ | refine ⟨_, Loads.at [] hst107 rfl, ?_⟩ | refine ⟨_, Loads.atA ((PV.cells ⟨.slice ao n c, l, b, v, S⟩)) [] hst107 (PV.len hp.1) (by simp), ?_⟩ | refine ⟨_, Loads.at [_] hst107 rfl, ?_⟩ | refine ⟨_, Loads.atA (x.cells) [_] hst107 (NV.len hx.ln) (NV.all x), ?_⟩) | (refine wl_boxA hst rfl rfl rfl ?_; intro g1 _ hst104; clear hst) | (refine wl_boxA hst104 rfl rfl rfl ?_; intro g2 _ hst105; clear hst104) | (go_at_call 10; refine (known5_any _).mono ?_; rintro _ _ ⟨rfl, h4⟩; have hst106 := St.call0 hst105 h4; clear h4 hst105) | (go_at_call 38; refine (big_any x _ (NV.In.old hst106 hx)).mono ?_; rw [hb]; rintro _ _ ⟨rfl, h4⟩; have hst107 := St.call0 hst106 h4; clear h4 hst106))
    all_goals (go_ret; exact ⟨rfl, hst107.nil⟩)
def emp (x : NV) (k : Nat) : Bool := (List.range k).all fun j => (x.get j).hole
theorem emp_succ (x : NV) (k : Nat) : emp x (k + 1) = (emp x k && (x.get k).hole) := by
  simp [emp, List.range_succ]
theorem emp_all (x : NV) : emp x 4 = x.empty := by
  simp only [emp, NV.empty, show List.range 4 = [0, 1, 2, 3] from rfl, List.all_cons, List.all_nil, Bool.and_true, NV.get]
end Go.Proofs.Ythjafocnfpphlaa
namespace Go.Proofs.Ythjafocnfpphlaa
open Go.RowKit Hp
attribute [local irreducible] Go.Calls
set_option maxHeartbeats 4000000
set_option maxRecDepth 100000
theorem sets_no (x : NV) (z : Int) (ao : Option Addr) (n c : Nat) (l : List (Int × Int)) (b v : Int) (S : List UInt8) (w : World) (hx : x.In w) (hp : PV.In w ⟨.slice ao n c, l, b, v, S⟩) (hb : x.big = false) (k2 : decide ((20 : Int) < n) = false)
    (k : Nat) (hk : k < 4) (hpick : ∀ w : World, Calls Try.prog 49 #[.int .i64 z, .int .i64 4] w fun e w' => e = .returned (.int .i64 k) ∧ St w [] w' []) (hc : x.ok = false) :
    Calls Try.prog 12 #[.agg x.cells.toArray, .int .i64 z, .agg (PV.cells ⟨.slice ao n c, l, b, v, S⟩).toArray] w fun e w' => e = .returned (.bool true) ∧ St w [] w' [] := by
  have hst := St.refl w
  have hpk := hid hpick
  have Herr := hid (NV.err_no hc)
  clear hpick
  go_enter Try.func12, Try.ntmps12
  go_wp2_with (first | go_big_skip | go_big_guard | (refine wl_loadE rfl rfl rfl ?_; first | refine ⟨_, Loads.at [] hst100 rfl, ?_⟩ | refine ⟨_, Loads.atA (x.cells) [] hst100 (NV.len hx.ln) (NV.all x), ?_⟩ | refine ⟨_, Loads.at [] hst101 rfl, ?_⟩ | refine ⟨_, Loads.atA ((PV.cells ⟨.slice ao n c, l, b, v, S⟩)) [] hst101 (PV.len hp.1) (by simp), ?_⟩ | refine ⟨_, Loads.at [_] hst101 rfl, ?_⟩ | refine ⟨_, Loads.atA (x.cells) [_] hst101 (NV.len hx.ln) (NV.all x), ?_⟩ | refine ⟨_, Loads.at [] hst102 rfl, ?_⟩ | refine ⟨_, Loads.atA ((PV.cells ⟨.slice ao n c, l, b, v, S⟩)) [] hst102 (PV.len hp.1) (by simp), ?_⟩ | refine ⟨_, Loads.at [_] hst102 rfl, ?_⟩ | refine ⟨_, Loads.atA (x.cells) [_] hst102 (NV.len hx.ln) (NV.all x), ?_⟩ | refine ⟨_, Loads.at [] hst103 rfl, ?_⟩ | refine ⟨_, Loads.atA ((PV.cells ⟨.slice ao n c, l, b, v, S⟩)) [] hst103 (PV.len hp.1) (by simp), ?_⟩ | refine ⟨_, Loads.at [_] hst103 rfl, ?_⟩ | refine ⟨_, Loads.atA (x.cells) [_] hst103 (NV.len hx.ln) (NV.all x), ?_⟩) | (refine wl_boxA hst rfl rfl rfl ?_; intro g1 _ hst100; clear hst) | (refine wl_boxA hst100 rfl rfl rfl ?_; intro g2 _ hst101; clear hst100) | (go_at_call 10; refine (known5_any _).mono ?_; rintro _ _ ⟨rfl, h4⟩; have hst102 := St.call0 hst101 h4; clear h4 hst101) | (go_at_call 38; refine (big_any x _ (NV.In.old hst102 hx)).mono ?_; rw [hb]; rintro _ _ ⟨rfl, h4⟩; have hst103 := St.call0 hst102 h4; clear h4 hst102))
  have hst3 : St w [] _ (.blk g2 29 (PV.cells ⟨.slice ao n c, l, b, v, S⟩) :: .blk g1 51 x.cells :: []) := hst103
  clear hst103
  go_loopw [8, 9] (fun u i wr => ∃ k : Nat, k ≤ 4 ∧ i = .int .i64 k ∧ u = .bool (emp x k) ∧ St w [] wr (.blk g2 29 (PV.cells ⟨.slice ao n c, l, b, v, S⟩) :: .blk g1 51 x.cells :: [])) (fun _ i _ => 4 - (intOf i).toNat)
  case atStart => exact ⟨0, by omega, rfl, rfl, hst3⟩
  case round =>
    clear hst3
    obtain ⟨j, hj, rfl, rfl, hst⟩ := hrel
    by_cases hj4 : j < 4
    · cases he : emp x j with
      | true =>
        have hes := hid (emp_succ x j)
        rw [he] at hes
        go_wp2_with (first | go_big_skip | go_big_guard | (refine wl_loadE rfl rfl rfl ?_; first | refine ⟨_, Loads.at [] hst rfl, ?_⟩ | refine ⟨_, Loads.at [_] hst rfl, ?_⟩ | refine ⟨_, Loads.atA ((x.get j).cells) [_] hst (PV.len (hx.ln j)) (NV.at' hx.ln hj4), ?_⟩ | refine ⟨_, Loads.at [] hst104 rfl, ?_⟩ | refine ⟨_, Loads.at [_] hst104 rfl, ?_⟩) | (go_at_call 27; refine (hole_pv (x.get j) _ (PV.In.old hst (hx j))).mono ?_; rintro _ _ ⟨rfl, h4⟩; have hst104 := St.call0 hst h4; clear h4 hst))
        go_roundw
        case rel => exact ⟨j + 1, by omega, by go_num, by rw [hes.out]; simp, hst104⟩
        case measure => simp [intOf]; omega
      | false =>
        have hes := hid (emp_succ x j)
        rw [he] at hes
        go_wp2_with (first | go_big_skip | go_big_guard | (refine wl_loadE rfl rfl rfl ?_; first | refine ⟨_, Loads.at [] hst rfl, ?_⟩ | refine ⟨_, Loads.at [_] hst rfl, ?_⟩ | refine ⟨_, Loads.atA ((x.get j).cells) [_] hst (PV.len (hx.ln j)) (NV.at' hx.ln hj4), ?_⟩))
        go_roundw
        case rel => exact ⟨j + 1, by omega, by go_num, by rw [hes.out]; simp, hst⟩
        case measure => simp [intOf]; omega
    · have ej : j = 4 := by omega
      subst ej
      rw [emp_all]
      clear hj hj4
      go_wp2_with (first | go_big_skip | go_big_guard | (refine wl_loadE rfl rfl rfl ?_; first | refine ⟨_, Loads.at [] hst rfl, ?_⟩ | refine ⟨_, Loads.atA ((PV.cells ⟨.slice ao n c, l, b, v, S⟩)) [] hst (PV.len hp.1) (by simp), ?_⟩ | refine ⟨_, Loads.at [_] hst rfl, ?_⟩ | refine ⟨_, Loads.atA (x.cells) [_] hst (NV.len hx.ln) (NV.all x), ?_⟩ | refine ⟨_, Loads.at [] hst105 rfl, ?_⟩ | refine ⟨_, Loads.atA ((PV.cells ⟨.slice ao n c, l, b, v, S⟩)) [] hst105 (PV.len hp.1) (by simp), ?_⟩ | refine ⟨_, Loads.at [_] hst105 rfl, ?_⟩ | refine ⟨_, Loads.atA (x.cells) [_] hst105 (NV.len hx.ln) (NV.all x), ?_⟩ | refine ⟨_, Loads.at [] hst8 rfl, ?_⟩ | refine ⟨_, Loads.atA ((PV.cells ⟨.slice ao n c, l, b, v, S⟩)) [] hst8 (PV.len hp.1) (by simp), ?_⟩ | refine ⟨_, Loads.at [_] hst8 rfl, ?_⟩ | refine ⟨_, Loads.atA (x.cells) [_] hst8 (NV.len hx.ln) (NV.all x), ?_⟩ | refine ⟨_, Loads.at [] hst106 rfl, ?_⟩ | refine ⟨_, Loads.atA ((PV.cells ⟨.slice ao n c, l, b, v, S⟩)) [] hst106 (PV.len hp.1) (by simp), ?_⟩ | refine ⟨_, Loads.at [_] hst106 rfl, ?_⟩ | refine ⟨_, Loads.atA (x.cells) [_] hst106 (NV.len hx.ln) (NV.all x), ?_⟩ | refine ⟨_, Loads.at [] hst107 rfl, ?_⟩ | refine ⟨_, Loads.at [_] hst107 rfl, ?_⟩ | refine ⟨_, Loads.atA ((PV.cells ⟨.slice ao n c, l, b, v, S⟩)) [_] hst107 (PV.len hp.1) (by simp), ?_⟩ | refine ⟨_, Loads.at [_, _] hst107 rfl, ?_⟩ | refine ⟨_, Loads.atA (x.cells) [_, _] hst107 (NV.len hx.ln) (NV.all x), ?_⟩ | refine ⟨_, Loads.at [] hst108 rfl, ?_⟩ | refine ⟨_, Loads.atA ((zN 0).cells) [] hst108 (NV.len (zN_ln 0)) (NV.all _), ?_⟩ | refine ⟨_, Loads.at [_] hst108 rfl, ?_⟩ | refine ⟨_, Loads.atA ((PV.cells ⟨.slice ao n c, l, b, v, S⟩)) [_] hst108 (PV.len hp.1) (by simp), ?_⟩ | refine ⟨_, Loads.at [_, _] hst108 rfl, ?_⟩ | refine ⟨_, Loads.atA (x.cells) [_, _] hst108 (NV.len hx.ln) (NV.all x), ?_⟩ | refine ⟨_, Loads.at [] hst109 rfl, ?_⟩ | refine ⟨_, Loads.atA ((zN 0).cells) [] hst109 (NV.len (zN_ln 0)) (NV.all _), ?_⟩ | refine ⟨_, Loads.at [_] hst109 rfl, ?_⟩ | refine ⟨_, Loads.atA ((PV.cells ⟨.slice ao n c, l, b, v, S⟩)) [_] hst109 (PV.len hp.1) (by simp), ?_⟩ | refine ⟨_, Loads.at [_, _] hst109 rfl, ?_⟩ | refine ⟨_, Loads.atA (x.cells) [_, _] hst109 (NV.len hx.ln) (NV.all x), ?_⟩) | (go_at_call 44; refine (empty_any x _ (NV.In.old hst hx)).mono ?_; rintro _ _ ⟨rfl, h4⟩; have hst105 := St.call0 hst h4; clear h4 hst) | (go_at_call 49; refine (hpk.out _).mono ?_; rintro _ _ ⟨rfl, h4⟩; have hst8 := St.call0 hst105 h4; clear h4 hst105) | (go_at_call 46; refine (set_not x ⟨.slice ao n c, l, b, v, S⟩ k _ (NV.In.old hst8 hx) hc).mono ?_; rintro _ _ ⟨rfl, h4⟩; have hst106 := St.call0 hst8 h4; clear h4 hst8) | (refine wl_alloc hst106 rfl rfl ?_; intro m _ hst107; clear hst106) | (refine wl_storeA [] hst107 rfl rfl rfl rfl (NV.len (zN_ln 0)) (zN_ones 0) (NV.len (zN_ln 0)) ?_; intro _ hst108; clear hst107) | (go_at_call 42; refine (ncheck_any x _ (NV.In.old hst108 hx)).mono ?_; rw [Herr.out]; rintro _ _ ⟨rfl, h4⟩; have hst109 := St.call0 hst108 h4; clear h4 hst108))
      go_goals
      all_goals (go_ret; exact ⟨rfl, hst109.nil⟩)
end Go.Proofs.Ythjafocnfpphlaa
namespace Go.Proofs.Ythjafocnfpphlaa
open Go.RowKit Hp
attribute [local irreducible] Go.Calls
set_option maxHeartbeats 4000000
set_option maxRecDepth 100000
theorem sets_off (x : NV) (z : Int) (ao : Option Addr) (n c : Nat) (l : List (Int × Int)) (b v : Int) (S : List UInt8) (w : World) (hx : x.In w) (hp : PV.In w ⟨.slice ao n c, l, b, v, S⟩) (hb : x.big = false) (k2 : decide ((20 : Int) < n) = false)
    (k : Nat) (hk : k < 4) (hpick : ∀ w : World, Calls Try.prog 49 #[.int .i64 z, .int .i64 4] w fun e w' => e = .returned (.int .i64 k) ∧ St w [] w' []) (hc : x.ok = true) (hc2 : (x.set k ⟨.slice ao n c, l, b, v, S⟩).ok = false) (hq : PV.ok ⟨.slice ao n c, l, b, v, S⟩ = false) :
    Calls Try.prog 12 #[.agg x.cells.toArray, .int .i64 z, .agg (PV.cells ⟨.slice ao n c, l, b, v, S⟩).toArray] w fun e w' => e = .returned (.bool true) ∧ St w [] w' [] := by
  have hst := St.refl w
  have hpk := hid hpick
  have Herr := hid (NV.err_ok hc)
  clear hpick
  go_enter Try.func12, Try.ntmps12
  go_wp2_with (first | go_big_skip | go_big_guard | (refine wl_loadE rfl rfl rfl ?_; first | refine ⟨_, Loads.at [] hst100 rfl, ?_⟩ | refine ⟨_, Loads.atA (x.cells) [] hst100 (NV.len hx.ln) (NV.all x), ?_⟩ | refine ⟨_, Loads.at [] hst101 rfl, ?_⟩ | refine ⟨_, Loads.atA ((PV.cells ⟨.slice ao n c, l, b, v, S⟩)) [] hst101 (PV.len hp.1) (by simp), ?_⟩ | refine ⟨_, Loads.at [_] hst101 rfl, ?_⟩ | refine ⟨_, Loads.atA (x.cells) [_] hst101 (NV.len hx.ln) (NV.all x), ?_⟩ | refine ⟨_, Loads.at [] hst102 rfl, ?_⟩ | refine ⟨_, Loads.atA ((PV.cells ⟨.slice ao n c, l, b, v, S⟩)) [] hst102 (PV.len hp.1) (by simp), ?_⟩ | refine ⟨_, Loads.at [_] hst102 rfl, ?_⟩ | refine ⟨_, Loads.atA (x.cells) [_] hst102 (NV.len hx.ln) (NV.all x), ?_⟩ | refine ⟨_, Loads.at [] hst103 rfl, ?_⟩ | refine ⟨_, Loads.atA ((PV.cells ⟨.slice ao n c, l, b, v, S⟩)) [] hst103 (PV.len hp.1) (by simp), ?_⟩ | refine ⟨_, Loads.at [_] hst103 rfl, ?_⟩ | refine ⟨_, Loads.atA (x.cells) [_] hst103 (NV.len hx.ln) (NV.all x), ?_⟩) | (refine wl_boxA hst rfl rfl rfl ?_; intro g1 _ hst100; clear hst) | (refine wl_boxA hst100 rfl rfl rfl ?_; intro g2 _ hst101; clear hst100) | (go_at_call 10; refine (known5_any _).mono ?_; rintro _ _ ⟨rfl, h4⟩; have hst102 := St.call0 hst101 h4; clear h4 hst101) | (go_at_call 38; refine (big_any x _ (NV.In.old hst102 hx)).mono ?_; rw [hb]; rintro _ _ ⟨rfl, h4⟩; have hst103 := St.call0 hst102 h4; clear h4 hst102))
  have hst3 : St w [] _ (.blk g2 29 (PV.cells ⟨.slice ao n c, l, b, v, S⟩) :: .blk g1 51 x.cells :: []) := hst103
  clear hst103
  go_loopw [8, 9] (fun u i wr => ∃ k : Nat, k ≤ 4 ∧ i = .int .i64 k ∧ u = .bool (emp x k) ∧ St w [] wr (.blk g2 29 (PV.cells ⟨.slice ao n c, l, b, v, S⟩) :: .blk g1 51 x.cells :: [])) (fun _ i _ => 4 - (intOf i).toNat)
  case atStart => exact ⟨0, by omega, rfl, rfl, hst3⟩
  case round =>
    clear hst3
    obtain ⟨j, hj, rfl, rfl, hst⟩ := hrel
    by_cases hj4 : j < 4
    · cases he : emp x j with
      | true =>
        have hes := hid (emp_succ x j)
        rw [he] at hes
        go_wp2_with (first | go_big_skip | go_big_guard | (refine wl_loadE rfl rfl rfl ?_; first | refine ⟨_, Loads.at [] hst rfl, ?_⟩ | refine ⟨_, Loads.at [_] hst rfl, ?_⟩ | refine ⟨_, Loads.atA ((x.get j).cells) [_] hst (PV.len (hx.ln j)) (NV.at' hx.ln hj4), ?_⟩ | refine ⟨_, Loads.at [] hst104 rfl, ?_⟩ | refine ⟨_, Loads.at [_] hst104 rfl, ?_⟩) | (go_at_call 27; refine (hole_pv (x.get j) _ (PV.In.old hst (hx j))).mono ?_; rintro _ _ ⟨rfl, h4⟩; have hst104 := St.call0 hst h4; clear h4 hst))
        go_roundw
        case rel => exact ⟨j + 1, by omega, by go_num, by rw [hes.out]; simp, hst104⟩
        case measure => simp [intOf]; omega
      | false =>
        have hes := hid (emp_succ x j)
        rw [he] at hes
        go_wp2_with (first | go_big_skip | go_big_guard | (refine wl_loadE rfl rfl rfl ?_; first | refine ⟨_, Loads.at [] hst rfl, ?_⟩ | refine ⟨_, Loads.at [_] hst rfl, ?_⟩ | refine ⟨_, Loads.atA ((x.get j).cells) [_] hst (PV.len (hx.ln j)) (NV.at' hx.ln hj4), ?_⟩))
        go_roundw
        case rel => exact ⟨j + 1, by omega, by go_num, by rw [hes.out]; simp, hst⟩
        case measure => simp [intOf]; omega
    · have ej : j = 4 := by omega
      subst ej
      rw [emp_all]
      clear hj hj4
      go_wp2_with (first | go_big_skip | go_big_guard | (refine wl_loadE rfl rfl rfl ?_; first | refine ⟨_, Loads.at [] hst rfl, ?_⟩ | refine ⟨_, Loads.atA ((PV.cells ⟨.slice ao n c, l, b, v, S⟩)) [] hst (PV.len hp.1) (by simp), ?_⟩ | refine ⟨_, Loads.at [_] hst rfl, ?_⟩ | refine ⟨_, Loads.atA (x.cells) [_] hst (NV.len hx.ln) (NV.all x), ?_⟩ | refine ⟨_, Loads.at [] hst105 rfl, ?_⟩ | refine ⟨_, Loads.atA ((PV.cells ⟨.slice ao n c, l, b, v, S⟩)) [] hst105 (PV.len hp.1) (by simp), ?_⟩ | refine ⟨_, Loads.at [_] hst105 rfl, ?_⟩ | refine ⟨_, Loads.atA (x.cells) [_] hst105 (NV.len hx.ln) (NV.all x), ?_⟩ | refine ⟨_, Loads.at [] hst8 rfl, ?_⟩ | refine ⟨_, Loads.atA ((PV.cells ⟨.slice ao n c, l, b, v, S⟩)) [] hst8 (PV.len hp.1) (by simp), ?_⟩ | refine ⟨_, Loads.at [_] hst8 rfl, ?_⟩ | refine ⟨_, Loads.atA (x.cells) [_] hst8 (NV.len hx.ln) (NV.all x), ?_⟩ | refine ⟨_, Loads.at [] hst106 rfl, ?_⟩ | refine ⟨_, Loads.atA ((PV.cells ⟨.slice ao n c, l, b, v, S⟩)) [] hst106 (PV.len hp.1) (by simp), ?_⟩ | refine ⟨_, Loads.at [_] hst106 rfl, ?_⟩ | refine ⟨_, Loads.atA (x.cells) [_] hst106 (NV.len hx.ln) (NV.all x), ?_⟩ | refine ⟨_, Loads.at [] hst107 rfl, ?_⟩ | refine ⟨_, Loads.at [_] hst107 rfl, ?_⟩ | refine ⟨_, Loads.atA ((PV.cells ⟨.slice ao n c, l, b, v, S⟩)) [_] hst107 (PV.len hp.1) (by simp), ?_⟩ | refine ⟨_, Loads.at [_, _] hst107 rfl, ?_⟩ | refine ⟨_, Loads.atA (x.cells) [_, _] hst107 (NV.len hx.ln) (NV.all x), ?_⟩ | refine ⟨_, Loads.at [] hst108 rfl, ?_⟩ | refine ⟨_, Loads.atA ((zN 0).cells) [] hst108 (NV.len (zN_ln 0)) (NV.all _), ?_⟩ | refine ⟨_, Loads.at [_] hst108 rfl, ?_⟩ | refine ⟨_, Loads.atA ((PV.cells ⟨.slice ao n c, l, b, v, S⟩)) [_] hst108 (PV.len hp.1) (by simp), ?_⟩ | refine ⟨_, Loads.at [_, _] hst108 rfl, ?_⟩ | refine ⟨_, Loads.atA (x.cells) [_, _] hst108 (NV.len hx.ln) (NV.all x), ?_⟩ | refine ⟨_, Loads.at [] hst109 rfl, ?_⟩ | refine ⟨_, Loads.atA ((zN 0).cells) [] hst109 (NV.len (zN_ln 0)) (NV.all _), ?_⟩ | refine ⟨_, Loads.at [_] hst109 rfl, ?_⟩ | refine ⟨_, Loads.atA ((PV.cells ⟨.slice ao n c, l, b, v, S⟩)) [_] hst109 (PV.len hp.1) (by simp), ?_⟩ | refine ⟨_, Loads.at [_, _] hst109 rfl, ?_⟩ | refine ⟨_, Loads.atA (x.cells) [_, _] hst109 (NV.len hx.ln) (NV.all x), ?_⟩ | refine ⟨_, Loads.at [] hst110 rfl, ?_⟩ | refine ⟨_, Loads.atA ((zN 0).cells) [] hst110 (NV.len (zN_ln 0)) (NV.all _), ?_⟩ | refine ⟨_, Loads.at [_] hst110 rfl, ?_⟩ | refine ⟨_, Loads.atA ((PV.cells ⟨.slice ao n c, l, b, v, S⟩)) [_] hst110 (PV.len hp.1) (by simp), ?_⟩ | refine ⟨_, Loads.at [_, _] hst110 rfl, ?_⟩ | refine ⟨_, Loads.atA (x.cells) [_, _] hst110 (NV.len hx.ln) (NV.all x), ?_⟩) | (go_at_call 44; refine (empty_any x _ (NV.In.old hst hx)).mono ?_; rintro _ _ ⟨rfl, h4⟩; have hst105 := St.call0 hst h4; clear h4 hst) | (go_at_call 49; refine (hpk.out _).mono ?_; rintro _ _ ⟨rfl, h4⟩; have hst8 := St.call0 hst105 h4; clear h4 hst105) | (go_at_call 46; refine (set_off x ⟨.slice ao n c, l, b, v, S⟩ k _ (NV.In.old hst8 hx) (PV.In.old hst8 hp) hc hk hc2).mono ?_; rintro _ _ ⟨rfl, h4⟩; have hst106 := St.call0 hst8 h4; clear h4 hst8) | (refine wl_alloc hst106 rfl rfl ?_; intro m _ hst107; clear hst106) | (refine wl_storeA [] hst107 rfl rfl rfl rfl (NV.len (zN_ln 0)) (zN_ones 0) (NV.len (zN_ln 0)) ?_; intro _ hst108; clear hst107) | (go_at_call 42; refine (ncheck_any x _ (NV.In.old hst108 hx)).mono ?_; rw [Herr.out]; rintro _ _ ⟨rfl, h4⟩; have hst109 := St.call0 hst108 h4; clear h4 hst108) | (go_at_call 22; refine (check_pv ⟨.slice ao n c, l, b, v, S⟩ _ (PV.In.old hst109 hp)).mono ?_; rw [hq, if_neg Bool.false_ne_true]; rintro _ _ ⟨rfl, h4⟩; have hst110 := St.call0 hst109 h4; clear h4 hst109))
      go_goals
      all_goals (go_ret; exact ⟨rfl, hst110.nil⟩)
end Go.Proofs.Ythjafocnfpphlaa
namespace Go.Proofs.Ythjafocnfpphlaa
open Go.RowKit Hp
attribute [local irreducible] Go.Calls
set_option maxHeartbeats 4000000
set_option maxRecDepth 100000
theorem sets_unfit (x : NV) (z : Int) (ao : Option Addr) (n c : Nat) (l : List (Int × Int)) (b v : Int) (S : List UInt8) (w : World) (hx : x.In w) (hp : PV.In w ⟨.slice ao n c, l, b, v, S⟩) (hb : x.big = false) (k2 : decide ((20 : Int) < n) = false)
    (k : Nat) (hk : k < 4) (hpick : ∀ w : World, Calls Try.prog 49 #[.int .i64 z, .int .i64 4] w fun e w' => e = .returned (.int .i64 k) ∧ St w [] w' []) (hc : x.ok = true) (hc2 : (x.set k ⟨.slice ao n c, l, b, v, S⟩).ok = false) (hq : PV.ok ⟨.slice ao n c, l, b, v, S⟩ = true) :
    Calls Try.prog 12 #[.agg x.cells.toArray, .int .i64 z, .agg (PV.cells ⟨.slice ao n c, l, b, v, S⟩).toArray] w fun e w' => e = .returned (.bool true) ∧ St w [] w' [] := by
  have hst := St.refl w
  have hpk := hid hpick
  have Herr := hid (NV.err_ok hc)
  obtain ⟨l1, l3, _⟩ := NV.ok_parts hc
  obtain ⟨hho, hvv⟩ := set_why (set_unfit hc hk hc2) hq
  have hw : wrap64 (x.lv - 1) = x.lv - 1 := IntWalk.wrap64_in _ (by omega)
  have hv2 : (v != x.lv - 1) = true := by simpa using hvv
  clear hvv
  clear hpick
  go_enter Try.func12, Try.ntmps12
  go_wp2_with (first | go_big_skip | go_big_guard | (refine wl_loadE rfl rfl rfl ?_; first | refine ⟨_, Loads.at [] hst100 rfl, ?_⟩ | refine ⟨_, Loads.atA (x.cells) [] hst100 (NV.len hx.ln) (NV.all x), ?_⟩ | refine ⟨_, Loads.at [] hst101 rfl, ?_⟩ | refine ⟨_, Loads.atA ((PV.cells ⟨.slice ao n c, l, b, v, S⟩)) [] hst101 (PV.len hp.1) (by simp), ?_⟩ | refine ⟨_, Loads.at [_] hst101 rfl, ?_⟩ | refine ⟨_, Loads.atA (x.cells) [_] hst101 (NV.len hx.ln) (NV.all x), ?_⟩ | refine ⟨_, Loads.at [] hst102 rfl, ?_⟩ | refine ⟨_, Loads.atA ((PV.cells ⟨.slice ao n c, l, b, v, S⟩)) [] hst102 (PV.len hp.1) (by simp), ?_⟩ | refine ⟨_, Loads.at [_] hst102 rfl, ?_⟩ | refine ⟨_, Loads.atA (x.cells) [_] hst102 (NV.len hx.ln) (NV.all x), ?_⟩ | refine ⟨_, Loads.at [] hst103 rfl, ?_⟩ | refine ⟨_, Loads.atA ((PV.cells ⟨.slice ao n c, l, b, v, S⟩)) [] hst103 (PV.len hp.1) (by simp), ?_⟩ | refine ⟨_, Loads.at [_] hst103 rfl, ?_⟩ | refine ⟨_, Loads.atA (x.cells) [_] hst103 (NV.len hx.ln) (NV.all x), ?_⟩) | (refine wl_boxA hst rfl rfl rfl ?_; intro g1 _ hst100; clear hst) | (refine wl_boxA hst100 rfl rfl rfl ?_; intro g2 _ hst101; clear hst100) | (go_at_call 10; refine (known5_any _).mono ?_; rintro _ _ ⟨rfl, h4⟩; have hst102 := St.call0 hst101 h4; clear h4 hst101) | (go_at_call 38; refine (big_any x _ (NV.In.old hst102 hx)).mono ?_; rw [hb]; rintro _ _ ⟨rfl, h4⟩; have hst103 := St.call0 hst102 h4; clear h4 hst102))
  have hst3 : St w [] _ (.blk g2 29 (PV.cells ⟨.slice ao n c, l, b, v, S⟩) :: .blk g1 51 x.cells :: []) := hst103
  clear hst103
  go_loopw [8, 9] (fun u i wr => ∃ k : Nat, k ≤ 4 ∧ i = .int .i64 k ∧ u = .bool (emp x k) ∧ St w [] wr (.blk g2 29 (PV.cells ⟨.slice ao n c, l, b, v, S⟩) :: .blk g1 51 x.cells :: [])) (fun _ i _ => 4 - (intOf i).toNat)
  case atStart => exact ⟨0, by omega, rfl, rfl, hst3⟩
  case round =>
    clear hst3
    obtain ⟨j, hj, rfl, rfl, hst⟩ := hrel
    by_cases hj4 : j < 4
    · cases he : emp x j with
      | true =>
        have hes := hid (emp_succ x j)
        rw [he] at hes
        go_wp2_with (first | go_big_skip | go_big_guard | (refine wl_loadE rfl rfl rfl ?_; first | refine ⟨_, Loads.at [] hst rfl, ?_⟩ | refine ⟨_, Loads.at [_] hst rfl, ?_⟩ | refine ⟨_, Loads.atA ((x.get j).cells) [_] hst (PV.len (hx.ln j)) (NV.at' hx.ln hj4), ?_⟩ | refine ⟨_, Loads.at [] hst104 rfl, ?_⟩ | refine ⟨_, Loads.at [_] hst104 rfl, ?_⟩) | (go_at_call 27; refine (hole_pv (x.get j) _ (PV.In.old hst (hx j))).mono ?_; rintro _ _ ⟨rfl, h4⟩; have hst104 := St.call0 hst h4; clear h4 hst))
        go_roundw
        case rel => exact ⟨j + 1, by omega, by go_num, by rw [hes.out]; simp, hst104⟩
        case measure => simp [intOf]; omega
      | false =>
        have hes := hid (emp_succ x j)
        rw [he] at hes
        go_wp2_with (first | go_big_skip | go_big_guard | (refine wl_loadE rfl rfl rfl ?_; first | refine ⟨_, Loads.at [] hst rfl, ?_⟩ | refine ⟨_, Loads.at [_] hst rfl, ?_⟩ | refine ⟨_, Loads.atA ((x.get j).cells) [_] hst (PV.len (hx.ln j)) (NV.at' hx.ln hj4), ?_⟩))
        go_roundw
        case rel => exact ⟨j + 1, by omega, by go_num, by rw [hes.out]; simp, hst⟩
        case measure => simp [intOf]; omega
    · have ej : j = 4 := by omega
      subst ej
      rw [emp_all]
      clear hj hj4
      go_wp2_with (first | go_big_skip | go_big_guard | (refine wl_loadE rfl rfl rfl ?_; first | refine ⟨_, Loads.at [] hst rfl, ?_⟩ | refine ⟨_, Loads.atA ((PV.cells ⟨.slice ao n c, l, b, v, S⟩)) [] hst (PV.len hp.1) (by simp), ?_⟩ | refine ⟨_, Loads.at [_] hst rfl, ?_⟩ | refine ⟨_, Loads.atA (x.cells) [_] hst (NV.len hx.ln) (NV.all x), ?_⟩ | refine ⟨_, Loads.at [] hst105 rfl, ?_⟩ | refine ⟨_, Loads.atA ((PV.cells ⟨.slice ao n c, l, b, v, S⟩)) [] hst105 (PV.len hp.1) (by simp), ?_⟩ | refine ⟨_, Loads.at [_] hst105 rfl, ?_⟩ | refine ⟨_, Loads.atA (x.cells) [_] hst105 (NV.len hx.ln) (NV.all x), ?_⟩ | refine ⟨_, Loads.at [] hst8 rfl, ?_⟩ | refine ⟨_, Loads.atA ((PV.cells ⟨.slice ao n c, l, b, v, S⟩)) [] hst8 (PV.len hp.1) (by simp), ?_⟩ | refine ⟨_, Loads.at [_] hst8 rfl, ?_⟩ | refine ⟨_, Loads.atA (x.cells) [_] hst8 (NV.len hx.ln) (NV.all x), ?_⟩ | refine ⟨_, Loads.at [] hst106 rfl, ?_⟩ | refine ⟨_, Loads.atA ((PV.cells ⟨.slice ao n c, l, b, v, S⟩)) [] hst106 (PV.len hp.1) (by simp), ?_⟩ | refine ⟨_, Loads.at [_] hst106 rfl, ?_⟩ | refine ⟨_, Loads.atA (x.cells) [_] hst106 (NV.len hx.ln) (NV.all x), ?_⟩ | refine ⟨_, Loads.at [] hst107 rfl, ?_⟩ | refine ⟨_, Loads.at [_] hst107 rfl, ?_⟩ | refine ⟨_, Loads.atA ((PV.cells ⟨.slice ao n c, l, b, v, S⟩)) [_] hst107 (PV.len hp.1) (by simp), ?_⟩ | refine ⟨_, Loads.at [_, _] hst107 rfl, ?_⟩ | refine ⟨_, Loads.atA (x.cells) [_, _] hst107 (NV.len hx.ln) (NV.all x), ?_⟩ | refine ⟨_, Loads.at [] hst108 rfl, ?_⟩ | refine ⟨_, Loads.atA ((zN 0).cells) [] hst108 (NV.len (zN_ln 0)) (NV.all _), ?_⟩ | refine ⟨_, Loads.at [_] hst108 rfl, ?_⟩ | refine ⟨_, Loads.atA ((PV.cells ⟨.slice ao n c, l, b, v, S⟩)) [_] hst108 (PV.len hp.1) (by simp), ?_⟩ | refine ⟨_, Loads.at [_, _] hst108 rfl, ?_⟩ | refine ⟨_, Loads.atA (x.cells) [_, _] hst108 (NV.len hx.ln) (NV.all x), ?_⟩ | refine ⟨_, Loads.at [] hst109 rfl, ?_⟩ | refine ⟨_, Loads.atA ((zN 0).cells) [] hst109 (NV.len (zN_ln 0)) (NV.all _), ?_⟩ | refine ⟨_, Loads.at [_] hst109 rfl, ?_⟩ | refine ⟨_, Loads.atA ((PV.cells ⟨.slice ao n c, l, b, v, S⟩)) [_] hst109 (PV.len hp.1) (by simp), ?_⟩ | refine ⟨_, Loads.at [_, _] hst109 rfl, ?_⟩ | refine ⟨_, Loads.atA (x.cells) [_, _] hst109 (NV.len hx.ln) (NV.all x), ?_⟩ | refine ⟨_, Loads.at [] hst110 rfl, ?_⟩ | refine ⟨_, Loads.atA ((zN 0).cells) [] hst110 (NV.len (zN_ln 0)) (NV.all _), ?_⟩ | refine ⟨_, Loads.at [_] hst110 rfl, ?_⟩ | refine ⟨_, Loads.atA ((PV.cells ⟨.slice ao n c, l, b, v, S⟩)) [_] hst110 (PV.len hp.1) (by simp), ?_⟩ | refine ⟨_, Loads.at [_, _] hst110 rfl, ?_⟩ | refine ⟨_, Loads.atA (x.cells) [_, _] hst110 (NV.len hx.ln) (NV.all x), ?_⟩ | refine ⟨_, Loads.at [] hst111 rfl, ?_⟩ | refine ⟨_, Loads.atA ((zN 0).cells) [] hst111 (NV.len (zN_ln 0)) (NV.all _), ?_⟩ | refine ⟨_, Loads.at [_] hst111 rfl, ?_⟩ | refine ⟨_, Loads.atA ((PV.cells ⟨.slice ao n c, l, b, v, S⟩)) [_] hst111 (PV.len hp.1) (by simp), ?_⟩ | refine ⟨_, Loads.at [_, _] hst111 rfl, ?_⟩ | refine ⟨_, Loads.atA (x.cells) [_, _] hst111 (NV.len hx.ln) (NV.all x), ?_⟩) | (go_at_call 44; refine (empty_any x _ (NV.In.old hst hx)).mono ?_; rintro _ _ ⟨rfl, h4⟩; have hst105 := St.call0 hst h4; clear h4 hst) | (go_at_call 49; refine (hpk.out _).mono ?_; rintro _ _ ⟨rfl, h4⟩; have hst8 := St.call0 hst105 h4; clear h4 hst105) | (go_at_call 46; refine (set_off x ⟨.slice ao n c, l, b, v, S⟩ k _ (NV.In.old hst8 hx) (PV.In.old hst8 hp) hc hk hc2).mono ?_; rintro _ _ ⟨rfl, h4⟩; have hst106 := St.call0 hst8 h4; clear h4 hst8) | (refine wl_alloc hst106 rfl rfl ?_; intro m _ hst107; clear hst106) | (refine wl_storeA [] hst107 rfl rfl rfl rfl (NV.len (zN_ln 0)) (zN_ones 0) (NV.len (zN_ln 0)) ?_; intro _ hst108; clear hst107) | (go_at_call 42; refine (ncheck_any x _ (NV.In.old hst108 hx)).mono ?_; rw [Herr.out]; rintro _ _ ⟨rfl, h4⟩; have hst109 := St.call0 hst108 h4; clear h4 hst108) | (go_at_call 22; refine (check_pv ⟨.slice ao n c, l, b, v, S⟩ _ (PV.In.old hst109 hp)).mono ?_; rw [hq, if_pos rfl]; rintro _ _ ⟨rfl, h4⟩; have hst110 := St.call0 hst109 h4; clear h4 hst109) | (go_at_call 27; refine (hole_pv ⟨.slice ao n c, l, b, v, S⟩ _ (PV.In.old hst110 hp)).mono ?_; rw [hho]; rintro _ _ ⟨rfl, h4⟩; have hst111 := St.call0 hst110 h4; clear h4 hst110))
      go_goals
      all_goals (go_ret; exact ⟨rfl, hst111.nil⟩)
end Go.Proofs.Ythjafocnfpphlaa
namespace Go.Proofs.Ythjafocnfpphlaa
open Go.RowKit Hp
attribute [local irreducible] Go.Calls
set_option maxHeartbeats 4000000
set_option maxRecDepth 100000
section
attribute [local go_sem ↓] loadedP loadedI
attribute [local go_sem ↓] loadedN
theorem sets_yes (x : NV) (z : Int) (ao : Option Addr) (n c : Nat) (l : List (Int × Int)) (b v : Int) (S : List UInt8) (w : World) (hx : x.In w) (hp : PV.In w ⟨.slice ao n c, l, b, v, S⟩) (hb : x.big = false) (k2 : decide ((20 : Int) < n) = false)
    (k : Nat) (hk : k < 4) (hpick : ∀ w : World, Calls Try.prog 49 #[.int .i64 z, .int .i64 4] w fun e w' => e = .returned (.int .i64 k) ∧ St w [] w' []) (hc : x.ok = true) (hc2 : (x.set k ⟨.slice ao n c, l, b, v, S⟩).ok = true) :
    Calls Try.prog 12 #[.agg x.cells.toArray, .int .i64 z, .agg (PV.cells ⟨.slice ao n c, l, b, v, S⟩).toArray] w fun e w' => e = .returned (.bool true) ∧ St w [] w' [] := by
  have hst := St.refl w
  have hpk := hid hpick
  have hxp := hid (NV.In.set hx hk hp)
  have Hc := hid hc
  have Hc2 := hid hc2
  clear hpick hc hc2
  go_enter Try.func12, Try.ntmps12
  go_wp2_with (first | go_big_skip | go_big_guard | (refine wl_loadE rfl rfl rfl ?_; first | refine ⟨_, Loads.at [] hst100 rfl, ?_⟩ | refine ⟨_, Loads.atA (x.cells) [] hst100 (NV.len hx.ln) (NV.all x), ?_⟩ | refine ⟨_, Loads.at [] hst101 rfl, ?_⟩ | refine ⟨_, Loads.atA ((PV.cells ⟨.slice ao n c, l, b, v, S⟩)) [] hst101 (PV.len hp.1) (by simp), ?_⟩ | refine ⟨_, Loads.at [_] hst101 rfl, ?_⟩ | refine ⟨_, Loads.atA (x.cells) [_] hst101 (NV.len hx.ln) (NV.all x), ?_⟩ | refine ⟨_, Loads.at [] hst102 rfl, ?_⟩ | refine ⟨_, Loads.atA ((PV.cells ⟨.slice ao n c, l, b, v, S⟩)) [] hst102 (PV.len hp.1) (by simp), ?_⟩ | refine ⟨_, Loads.at [_] hst102 rfl, ?_⟩ | refine ⟨_, Loads.atA (x.cells) [_] hst102 (NV.len hx.ln) (NV.all x), ?_⟩ | refine ⟨_, Loads.at [] hst103 rfl, ?_⟩ | refine ⟨_, Loads.atA ((PV.cells ⟨.slice ao n c, l, b, v, S⟩)) [] hst103 (PV.len hp.1) (by simp), ?_⟩ | refine ⟨_, Loads.at [_] hst103 rfl, ?_⟩ | refine ⟨_, Loads.atA (x.cells) [_] hst103 (NV.len hx.ln) (NV.all x), ?_⟩) | (refine wl_boxA hst rfl rfl rfl ?_; intro g1 _ hst100; clear hst) | (refine wl_boxA hst100 rfl rfl rfl ?_; intro g2 _ hst101; clear hst100) | (go_at_call 10; refine (known5_any _).mono ?_; rintro _ _ ⟨rfl, h4⟩; have hst102 := St.call0 hst101 h4; clear h4 hst101) | (go_at_call 38; refine (big_any x _ (NV.In.old hst102 hx)).mono ?_; rw [hb]; rintro _ _ ⟨rfl, h4⟩; have hst103 := St.call0 hst102 h4; clear h4 hst102))
  have hst3 : St w [] _ (.blk g2 29 (PV.cells ⟨.slice ao n c, l, b, v, S⟩) :: .blk g1 51 x.cells :: []) := hst103
  clear hst103
  go_loopw [8, 9] (fun u i wr => ∃ k : Nat, k ≤ 4 ∧ i = .int .i64 k ∧ u = .bool (emp x k) ∧ St w [] wr (.blk g2 29 (PV.cells ⟨.slice ao n c, l, b, v, S⟩) :: .blk g1 51 x.cells :: [])) (fun _ i _ => 4 - (intOf i).toNat)
  case atStart => exact ⟨0, by omega, rfl, rfl, hst3⟩
  case round =>
    clear hst3
    obtain ⟨j, hj, rfl, rfl, hst⟩ := hrel
    by_cases hj4 : j < 4
    · cases he : emp x j with
      | true =>
        have hes := hid (emp_succ x j)
        rw [he] at hes
        go_wp2_with (first | go_big_skip | go_big_guard | (refine wl_loadE rfl rfl rfl ?_; first | refine ⟨_, Loads.at [] hst rfl, ?_⟩ | refine ⟨_, Loads.at [_] hst rfl, ?_⟩ | refine ⟨_, Loads.atA ((x.get j).cells) [_] hst (PV.len (hx.ln j)) (NV.at' hx.ln hj4), ?_⟩ | refine ⟨_, Loads.at [] hst104 rfl, ?_⟩ | refine ⟨_, Loads.at [_] hst104 rfl, ?_⟩) | (go_at_call 27; refine (hole_pv (x.get j) _ (PV.In.old hst (hx j))).mono ?_; rintro _ _ ⟨rfl, h4⟩; have hst104 := St.call0 hst h4; clear h4 hst))
        go_roundw
        case rel => exact ⟨j + 1, by omega, by go_num, by rw [hes.out]; simp, hst104⟩
        case measure => simp [intOf]; omega
      | false =>
        have hes := hid (emp_succ x j)
        rw [he] at hes
        go_wp2_with (first | go_big_skip | go_big_guard | (refine wl_loadE rfl rfl rfl ?_; first | refine ⟨_, Loads.at [] hst rfl, ?_⟩ | refine ⟨_, Loads.at [_] hst rfl, ?_⟩ | refine ⟨_, Loads.atA ((x.get j).cells) [_] hst (PV.len (hx.ln j)) (NV.at' hx.ln hj4), ?_⟩))
        go_roundw
        case rel => exact ⟨j + 1, by omega, by go_num, by rw [hes.out]; simp, hst⟩
        case measure => simp [intOf]; omega
    · have ej : j = 4 := by omega
      subst ej
      rw [emp_all]
      clear hj hj4
      go_wp2_with (first | go_big_skip | go_big_guard | (refine wl_loadE rfl rfl rfl ?_; first | refine ⟨_, Loads.at [] hst rfl, ?_⟩ | refine ⟨_, Loads.atA ((PV.cells ⟨.slice ao n c, l, b, v, S⟩)) [] hst (PV.len hp.1) (by simp), ?_⟩ | refine ⟨_, Loads.at [_] hst rfl, ?_⟩ | refine ⟨_, Loads.atA (x.cells) [_] hst (NV.len hx.ln) (NV.all x), ?_⟩ | refine ⟨_, Loads.at [] hst105 rfl, ?_⟩ | refine ⟨_, Loads.atA ((PV.cells ⟨.slice ao n c, l, b, v, S⟩)) [] hst105 (PV.len hp.1) (by simp), ?_⟩ | refine ⟨_, Loads.at [_] hst105 rfl, ?_⟩ | refine ⟨_, Loads.atA (x.cells) [_] hst105 (NV.len hx.ln) (NV.all x), ?_⟩ | refine ⟨_, Loads.at [] hst8 rfl, ?_⟩ | refine ⟨_, Loads.atA ((PV.cells ⟨.slice ao n c, l, b, v, S⟩)) [] hst8 (PV.len hp.1) (by simp), ?_⟩ | refine ⟨_, Loads.at [_] hst8 rfl, ?_⟩ | refine ⟨_, Loads.atA (x.cells) [_] hst8 (NV.len hx.ln) (NV.all x), ?_⟩ | refine ⟨_, Loads.at [] hst9 rfl, ?_⟩ | refine ⟨_, Loads.atA ((PV.cells ⟨.slice ao n c, l, b, v, S⟩)) [] hst9 (PV.len hp.1) (by simp), ?_⟩ | refine ⟨_, Loads.at [_] hst9 rfl, ?_⟩ | refine ⟨_, Loads.atA (x.cells) [_] hst9 (NV.len hx.ln) (NV.all x), ?_⟩ | refine ⟨_, Loads.at [] hst106 rfl, ?_⟩ | refine ⟨_, Loads.at [_] hst106 rfl, ?_⟩ | refine ⟨_, Loads.atA ((PV.cells ⟨.slice ao n c, l, b, v, S⟩)) [_] hst106 (PV.len hp.1) (by simp), ?_⟩ | refine ⟨_, Loads.at [_, _] hst106 rfl, ?_⟩ | refine ⟨_, Loads.atA (x.cells) [_, _] hst106 (NV.len hx.ln) (NV.all x), ?_⟩ | refine ⟨_, Loads.at [] hst107 rfl, ?_⟩ | refine ⟨_, Loads.at [_] hst107 rfl, ?_⟩ | refine ⟨_, Loads.atA ((PV.cells ⟨.slice ao n c, l, b, v, S⟩)) [_] hst107 (PV.len hp.1) (by simp), ?_⟩ | refine ⟨_, Loads.at [_, _] hst107 rfl, ?_⟩ | refine ⟨_, Loads.atA (x.cells) [_, _] hst107 (NV.len hx.ln) (NV.all x), ?_⟩) | (go_at_call 44; refine (empty_any x _ (NV.In.old hst hx)).mono ?_; rintro _ _ ⟨rfl, h4⟩; have hst105 := St.call0 hst h4; clear h4 hst) | (go_at_call 49; refine (hpk.out _).mono ?_; rintro _ _ ⟨rfl, h4⟩; have hst8 := St.call0 hst105 h4; clear h4 hst105) | (go_at_call 46; refine (set_yes x ⟨.slice ao n c, l, b, v, S⟩ k _ (NV.In.old hst8 hx) (PV.In.old hst8 hp) Hc.out hk Hc2.out).mono ?_; rintro _ _ ⟨y, R, rfl, h4, hl, hO⟩; have HLv := hid hl; have HO := hid hO; have hst9 := (St.call hst8 h4).perm List.perm_append_comm; clear h4 hl hO hst8) | (refine wl_alloc hst9 rfl rfl ?_; intro m _ hst106; clear hst9) | (refine wl_storeA [] hst106 rfl rfl rfl rfl (NV.len (HO.out.ln hxp.out.ln)) (NV.isO.ones HO.out (HLv.out.trans (NV.lv_set _ _ _).symm)) (NV.len (zN_ln 0)) ?_; intro _ hst107; clear hst106))
      have hst12 : St w [] _ (.blk m 51 y.cells :: .blk g2 29 (PV.cells ⟨.slice ao n c, l, b, v, S⟩) :: .blk g1 51 x.cells :: R) := hst107
      clear hst107
      go_loopw [12] (fun i wr => ∃ j : Nat, j ≤ 4 ∧ i = .int .i64 j ∧ St w [] wr (.blk m 51 y.cells :: .blk g2 29 (PV.cells ⟨.slice ao n c, l, b, v, S⟩) :: .blk g1 51 x.cells :: R)) (fun i _ => 4 - (intOf i).toNat)
      case atStart => exact ⟨0, by omega, rfl, hst12⟩
      case round =>
        clear hst12
        obtain ⟨j, hj, rfl, hst⟩ := hrel
        by_cases hj4 : j < 4
        · by_cases hjk : j = k
          · have hne : ((j : Int) != (k : Int)) = false := by simp [hjk]
            clear hjk
            go_wp2_with (first | go_big_skip | go_big_guard | fail)
            have hst108 := hst.drew; clear hst
            refine wp_region_held_drew (S := (fun w' => True)) (by kernel_rfl) (by exact trivial) (fun hHeld => ?_)
            refine wpAnyH_take (i := 0) (oi := ⟨some 80, _, _, _, _, _⟩) (v := ?_) rfl (by kernel_rfl) (by kernel_rfl) (by kernel_rfl) (fun _ _ _ h => h) (Or.inl ⟨by rfl, ?_⟩) (by assumption) ?_
            rotate_left
            · intro w hSw; (try dsimp only at hSw); go_simp; try with_reducible rfl
            (try simp only [Act.put, List.setIfInBounds_toArray, List.set_cons_zero, List.set_cons_succ])
            refine wpAnyH_take (i := 1) (oi := ⟨some 81, _, _, _, _, _⟩) (v := ?_) rfl (by kernel_rfl) (by kernel_rfl) (by kernel_rfl) (fun _ _ _ h => h) (Or.inl ⟨by rfl, ?_⟩) (by assumption) ?_
            rotate_left
            · intro w hSw; (try dsimp only at hSw); go_simp; try with_reducible rfl
            (try simp only [Act.put, List.setIfInBounds_toArray, List.set_cons_zero, List.set_cons_succ])
            refine wpAnyH_take (i := 2) (oi := ⟨some 82, _, _, _, _, _⟩) (v := ?_) rfl (by kernel_rfl) (by kernel_rfl) (by kernel_rfl) (fun _ _ _ h => h) (Or.inl ⟨by rfl, ?_⟩) (by assumption) ?_
            rotate_left
            · intro w hSw; (try dsimp only at hSw); go_simp; try with_reducible rfl
            (try simp only [Act.put, List.setIfInBounds_toArray, List.set_cons_zero, List.set_cons_succ])
            refine wpAnyH_take (i := 3) (oi := ⟨some 83, _, _, _, _, _⟩) (v := ?_) rfl (by kernel_rfl) (by kernel_rfl) (by kernel_rfl) (fun _ _ _ h => h) (Or.inl ⟨by rfl, ?_⟩) (by assumption) ?_
            rotate_left
            · intro w hSw; (try dsimp only at hSw); go_simp; try with_reducible rfl
            (try simp only [Act.put, List.setIfInBounds_toArray, List.set_cons_zero, List.set_cons_succ])
            refine wpAnyH_take (i := 4) (oi := ⟨some 84, _, _, _, _, _⟩) (v := undef) rfl (by kernel_rfl) (by kernel_rfl) (by kernel_rfl) (fun _ _ _ h => h) (Or.inr ⟨by rfl, rfl⟩) (by assumption) ?_
            (try simp only [Act.put, List.setIfInBounds_toArray, List.set_cons_zero, List.set_cons_succ])
            refine wpAnyH_take (i := 5) (oi := ⟨some 85, _, _, _, _, _⟩) (v := undef) rfl (by kernel_rfl) (by kernel_rfl) (by kernel_rfl) (fun _ _ _ h => h) (Or.inr ⟨by rfl, rfl⟩) (by assumption) ?_
            (try simp only [Act.put, List.setIfInBounds_toArray, List.set_cons_zero, List.set_cons_succ])
            refine wpAnyH_take (i := 6) (oi := ⟨some 86, _, _, _, _, _⟩) (v := undef) rfl (by kernel_rfl) (by kernel_rfl) (by kernel_rfl) (fun _ _ _ h => h) (Or.inr ⟨by rfl, rfl⟩) (by assumption) ?_
            (try simp only [Act.put, List.setIfInBounds_toArray, List.set_cons_zero, List.set_cons_succ])
            refine wpAnyH_take (i := 7) (oi := ⟨some 87, _, _, _, _, _⟩) (v := undef) rfl (by kernel_rfl) (by kernel_rfl) (by kernel_rfl) (fun _ _ _ h => h) (Or.inr ⟨by rfl, rfl⟩) (by assumption) ?_
            (try simp only [Act.put, List.setIfInBounds_toArray, List.set_cons_zero, List.set_cons_succ])
            refine wpAnyH_take (i := 8) (oi := ⟨some 88, _, _, _, _, _⟩) (v := undef) rfl (by kernel_rfl) (by kernel_rfl) (by kernel_rfl) (fun _ _ _ h => h) (Or.inr ⟨by rfl, rfl⟩) (by assumption) ?_
            (try simp only [Act.put, List.setIfInBounds_toArray, List.set_cons_zero, List.set_cons_succ])
            refine wpAnyH_take (i := 9) (oi := ⟨some 89, _, _, _, _, _⟩) (v := undef) rfl (by kernel_rfl) (by kernel_rfl) (by kernel_rfl) (fun _ _ _ h => h) (Or.inr ⟨by rfl, rfl⟩) (by assumption) ?_
            (try simp only [Act.put, List.setIfInBounds_toArray, List.set_cons_zero, List.set_cons_succ])
            refine wpAnyH_take (i := 10) (oi := ⟨some 90, _, _, _, _, _⟩) (v := undef) rfl (by kernel_rfl) (by kernel_rfl) (by kernel_rfl) (fun _ _ _ h => h) (Or.inr ⟨by rfl, rfl⟩) (by assumption) ?_
            (try simp only [Act.put, List.setIfInBounds_toArray, List.set_cons_zero, List.set_cons_succ])
            refine wpAnyH_take (i := 11) (oi := ⟨some 91, _, _, _, _, _⟩) (v := undef) rfl (by kernel_rfl) (by kernel_rfl) (by kernel_rfl) (fun _ _ _ h => h) (Or.inr ⟨by rfl, rfl⟩) (by assumption) ?_
            (try simp only [Act.put, List.setIfInBounds_toArray, List.set_cons_zero, List.set_cons_succ])
            refine wpAnyH_ready (rs := [12]) (by kernel_rfl) (by simp) ?_
            refine AllReadyH.cons (o := ⟨some 92, _, _, _, _, _⟩) rfl (fun K hK => ?_) AllReadyH.nil
            rw [if_neg (by rw [show Region.wanted _ _ = false from rfl]; exact Bool.false_ne_true)]
            refine hK.out _ _ ?_ (fun hHeld => ?_)
            · exact hHeld
            clear hK K
            (try simp only [Act.put, List.setIfInBounds_toArray, List.set_cons_zero, List.set_cons_succ])
            refine wpAnyH_take (i := 13) (oi := ⟨some 93, _, _, _, _, _⟩) (v := undef) rfl (by kernel_rfl) (by kernel_rfl) (by kernel_rfl) (fun _ _ _ h => h) (Or.inr ⟨by rfl, rfl⟩) (by assumption) ?_
            (try simp only [Act.put, List.setIfInBounds_toArray, List.set_cons_zero, List.set_cons_succ])
            refine wpAnyH_take (i := 14) (oi := ⟨some 94, _, _, _, _, _⟩) (v := ?_) rfl (by kernel_rfl) (by kernel_rfl) (by kernel_rfl) (fun _ _ _ h => h) (Or.inl ⟨by rfl, ?_⟩) (by assumption) ?_
            rotate_left
            · intro w hSw; (try dsimp only at hSw); go_simp; try with_reducible rfl
            (try simp only [Act.put, List.setIfInBounds_toArray, List.set_cons_zero, List.set_cons_succ])
            refine wpAnyH_done (by kernel_rfl) ?_ _
            go_wp2_with (first | go_big_skip | go_big_guard | fail)
            go_roundw
            case rel => exact ⟨j + 1, by omega, by go_num, hst108⟩
            case measure => simp [intOf]; omega
          · have hne : ((j : Int) != (k : Int)) = true := by simp [hjk]; omega
            have hsj := hid (PV.eqd.same (isO_other hk HO.out hj4 hjk))
            clear hjk
            go_wp2_with (first | go_big_skip | go_big_guard | fail)
            have hst109 := hst.drew; clear hst
            go_region_held3 (fun w' => (loadVarH 29 ⟨m, 1 + j * 35, none⟩).run Try.prog w' = .ok (.agg (List.toArray ((y.get j).cells))) w' ∧ (loadVarH 29 ⟨g1, 1 + j * 35, none⟩).run Try.prog w' = .ok (.agg (List.toArray ((x.get j).cells))) w')
              (first | exact ⟨ldA ((y.get j).cells) [] hst110 (PV.len (HO.out.ln hxp.out.ln j)) (NV.at' (HO.out.ln hxp.out.ln) hj4), ldA ((x.get j).cells) [_, _] hst110 (PV.len (hx.ln j)) (NV.at' hx.ln hj4)⟩ | exact ⟨ldA ((y.get j).cells) [] hst109 (PV.len (HO.out.ln hxp.out.ln j)) (NV.at' (HO.out.ln hxp.out.ln) hj4), ldA ((x.get j).cells) [_, _] hst109 (PV.len (hx.ln j)) (NV.at' hx.ln hj4)⟩)
              (first | (go_at_call 17; refine (same_pv (y.get j) (x.get j) _ (HO.out.in hst109 (fun y hy => by simp only [List.mem_cons, List.mem_append, hy, or_true, true_or]) hxp.out.ln j) (PV.In.old hst109 (hx j))).mono ?_; rw [hsj.out]; rintro _ _ ⟨rfl, h4⟩; have hst110 := St.call0 hst109 h4; clear h4 hst109))
            go_wp2_with (first | go_big_skip | go_big_guard | fail)
            go_roundw
            case rel => exact ⟨j + 1, by omega, by go_num, hst110⟩
            case measure => simp [intOf]; omega
        · have ej : j = 4 := by omega
          subst ej
          clear hj hj4
          have HB1 := hid (show (∀ {w' : World} {L : List HA}, St w [] w' L → (∀ q ∈ R, q ∈ L) → y.In w') ∧ (y.set k (x.get k)).Ln from ⟨fun h1 h2 => HO.out.in h1 h2 hxp.out.ln, (NV.In.set (HO.out.in hst (fun y hy => by simp only [List.mem_cons, List.mem_append, hy, or_true, true_or]) hxp.out.ln) hk (PV.In.old hst (hx k))).ln⟩)
          go_wp2_with (first | go_big_skip | go_big_guard | fail)
          have hkz : (k : Int) < 4 := by omega
          have hstD := hst.drew
          clear hst
          refine wp_region_held_drew (S := (fun w' => (loadVarH 51 ⟨m, 0, none⟩).run Try.prog w' = .ok (.agg (List.toArray (y.cells))) w' ∧ (loadVarH 29 ⟨g1, 1 + k * 35, none⟩).run Try.prog w' = .ok (.agg (List.toArray ((x.get k).cells))) w')) (by kernel_rfl) (by exact ⟨ldA (y.cells) [] hstD (NV.len (HO.out.ln hxp.out.ln)) (NV.all y), ldA ((x.get k).cells) [_, _] hstD (PV.len (hx.ln k)) (NV.at' hx.ln hk)⟩) (fun hHeld => ?_)
          refine wpAnyH_take (i := 0) (oi := ⟨some 96, _, _, _, _, _⟩) (v := ?_) rfl (by kernel_rfl) (by kernel_rfl) (by kernel_rfl) (fun _ _ _ h => h) (Or.inl ⟨by rfl, ?_⟩) (by assumption) ?_
          rotate_left
          · intro w hSw; (try dsimp only at hSw); go_simp; try with_reducible rfl
          (try simp only [Act.put, List.setIfInBounds_toArray, List.set_cons_zero, List.set_cons_succ])
          refine wpAnyH_take (i := 1) (oi := ⟨some 97, _, _, _, _, _⟩) (v := ?_) rfl (by kernel_rfl) (by kernel_rfl) (by kernel_rfl) (fun _ _ _ h => h) (Or.inl ⟨by rfl, ?_⟩) (by assumption) ?_
          rotate_left
          · intro w hSw; (try dsimp only at hSw); go_simp; try with_reducible rfl
          (try simp only [Act.put, List.setIfInBounds_toArray, List.set_cons_zero, List.set_cons_succ])
          refine wpAnyH_take (i := 2) (oi := ⟨some 98, _, _, _, _, _⟩) (v := ?_) rfl (by kernel_rfl) (by kernel_rfl) (by kernel_rfl) (fun _ _ _ h => h) (Or.inl ⟨by rfl, ?_⟩) (by assumption) ?_
          rotate_left
          · intro w hSw; (try dsimp only at hSw); go_simp; try with_reducible rfl
          (try simp only [Act.put, List.setIfInBounds_toArray, List.set_cons_zero, List.set_cons_succ])
          refine wpAnyH_take (i := 3) (oi := ⟨some 99, _, _, _, _, _⟩) (v := ?_) rfl (by kernel_rfl) (by kernel_rfl) (by kernel_rfl) (fun _ _ _ h => h) (Or.inl ⟨by rfl, ?_⟩) (by assumption) ?_
          rotate_left
          · intro w hSw; (try dsimp only at hSw); go_simp; try with_reducible rfl
          (try simp only [Act.put, List.setIfInBounds_toArray, List.set_cons_zero, List.set_cons_succ])
          refine wpAnyH_take (i := 4) (oi := ⟨some 100, _, _, _, _, _⟩) (v := ?_) rfl (by kernel_rfl) (by kernel_rfl) (by kernel_rfl) (fun _ _ _ h => h) (Or.inl ⟨by rfl, ?_⟩) (by assumption) ?_
          rotate_left
          · intro w hSw; (try dsimp only at hSw); go_simp; try with_reducible rfl
          (try simp only [Act.put, List.setIfInBounds_toArray, List.set_cons_zero, List.set_cons_succ])
          refine wpAnyH_take (i := 5) (oi := ⟨some 101, _, _, _, _, _⟩) (v := ?_) rfl (by kernel_rfl) (by kernel_rfl) (by kernel_rfl) (fun _ _ _ h => h) (Or.inl ⟨by rfl, ?_⟩) (by assumption) ?_
          rotate_left
          · intro w hSw; (try dsimp only at hSw); go_simp; try with_reducible rfl
          (try simp only [Act.put, List.setIfInBounds_toArray, List.set_cons_zero, List.set_cons_succ])
          refine wpAnyH_ready (rs := [6, 10]) (by kernel_rfl) (by simp) ?_
          refine (AllReadyH.cons (o := ⟨some 102, _, _, _, _, _⟩) rfl (fun K hK => ?_) (AllReadyH.cons (o := ⟨some 13, _, _, _, _, _⟩) rfl (fun K hK => ?_) AllReadyH.nil))
          · go_simp
            go_at_call 46
            refine (set_yes y (x.get k) k _ (HB1.out.1 hstD (fun y hy => by simp only [List.mem_cons, List.mem_append, hy, or_true, true_or])) (PV.In.old hstD (hx k)) ((isO_ok (HLv.out.trans (NV.lv_set _ _ _).symm) HO.out).trans Hc2.out) hk ((back_ok hk HLv.out HO.out).trans Hc.out)).mono ?_
            rintro _ _ ⟨z, Q, rfl, h4, hl, hO⟩
            have HLz := hid hl
            have HZ := hid hO
            have hstC := (St.call hstD h4).perm List.perm_append_comm
            clear h4 hl hO
            refine hK.out _ _ ?_ (fun hHeld => ?_)
            · exact ⟨ldA (y.cells) [] hstC (NV.len (HO.out.ln hxp.out.ln)) (NV.all y), ldA ((x.get k).cells) [_, _] hstC (PV.len (hx.ln k)) (NV.at' hx.ln hk)⟩
            clear hK K
            (try simp only [Act.put, List.setIfInBounds_toArray, List.set_cons_zero, List.set_cons_succ])
            refine wpAnyH_take (i := 7) (oi := ⟨some 95, _, _, _, _, _⟩) (v := ?_) rfl (by kernel_rfl) (by kernel_rfl) (by kernel_rfl) (fun _ _ _ h => h) (Or.inl ⟨by rfl, ?_⟩) (by assumption) ?_
            rotate_left
            · intro w hSw; (try dsimp only at hSw); go_simp; try with_reducible rfl
            (try simp only [Act.put, List.setIfInBounds_toArray, List.set_cons_zero, List.set_cons_succ])
            refine wpAnyH_take (i := 8) (oi := ⟨some 103, _, _, _, _, _⟩) (v := ?_) rfl (by kernel_rfl) (by kernel_rfl) (by kernel_rfl) (fun _ _ _ h => h) (Or.inl ⟨by rfl, ?_⟩) (by assumption) ?_
            rotate_left
            · intro w hSw; (try dsimp only at hSw); go_simp; try with_reducible rfl
            (try simp only [Act.put, List.setIfInBounds_toArray, List.set_cons_zero, List.set_cons_succ])
            refine wpAnyH_take (i := 9) (oi := ⟨some 104, _, _, _, _, _⟩) (v := ?_) rfl (by kernel_rfl) (by kernel_rfl) (by kernel_rfl) (fun _ _ _ h => h) (Or.inl ⟨by rfl, ?_⟩) (by assumption) ?_
            rotate_left
            · intro w hSw; (try dsimp only at hSw); go_simp; try with_reducible rfl
            (try simp only [Act.put, List.setIfInBounds_toArray, List.set_cons_zero, List.set_cons_succ])
            refine wpAnyH_ready (rs := [10]) (by kernel_rfl) (by simp) ?_
            refine (AllReadyH.cons (o := ⟨some 13, _, _, _, _, _⟩) rfl (fun K hK => ?_) AllReadyH.nil)
            rw [if_pos (by rfl)]
            apply ow_alloc hstC
            rfl
            infer_instance
            intro gb _ hstE
            refine hK.out _ _ ?_ (fun hHeld => ?_)
            · exact ⟨ldA (y.cells) [_] hstE (NV.len (HO.out.ln hxp.out.ln)) (NV.all y), ldA ((x.get k).cells) [_, _, _] hstE (PV.len (hx.ln k)) (NV.at' hx.ln hk)⟩
            clear hK K
            (try simp only [Act.put, List.setIfInBounds_toArray, List.set_cons_zero, List.set_cons_succ])
            refine wpAnyH_ready (rs := [11]) (by kernel_rfl) (by simp) ?_
            refine (AllReadyH.cons (o := ⟨none, _, _, _, _, _⟩) rfl (fun K hK => ?_) AllReadyH.nil)
            rw [if_pos (by rfl)]
            apply ow_storeA [] hstE
            rfl
            exact rfl
            exact rfl
            infer_instance
            exact NV.len (HZ.out.ln HB1.out.2)
            exact NV.isO.ones HZ.out (HLz.out.trans (NV.lv_set _ _ _).symm)
            exact NV.len (zN_ln 0)
            intro _ hstF
            refine hK.out _ _ ?_ (fun hHeld => ?_)
            · exact ⟨ldA (y.cells) [_] hstF (NV.len (HO.out.ln hxp.out.ln)) (NV.all y), ldA ((x.get k).cells) [_, _, _] hstF (PV.len (hx.ln k)) (NV.at' hx.ln hk)⟩
            clear hK K
            (try simp only [Act.put, List.setIfInBounds_toArray, List.set_cons_zero, List.set_cons_succ])
            refine wpAnyH_take (i := 12) (oi := ⟨some 14, _, _, _, _, _⟩) (v := ?_) rfl (by kernel_rfl) (by kernel_rfl) (by kernel_rfl) (fun _ _ _ h => h) (Or.inl ⟨by rfl, ?_⟩) (by assumption) ?_
            rotate_left
            · intro w hSw; (try dsimp only at hSw); go_simp; try with_reducible rfl
            (try simp only [Act.put, List.setIfInBounds_toArray, List.set_cons_zero, List.set_cons_succ])
            refine wpAnyH_done (by kernel_rfl) ?_ _
            clear hHeld
            have q1 := hid (PV.eqd.same (isO_same hk HO.out))
            have q2 : (y.lv == x.lv) = true := by simpa using HLv.out
            have q3 := hid (NV.err_ok ((isO_ok (HLv.out.trans (NV.lv_set _ _ _).symm) HO.out).trans Hc2.out))
            have q4 := hid (back_same hk HLv.out HO.out HLz.out HZ.out)
            go_wp2_with (first | go_big_skip | go_big_guard | fail)
            have hst111 := hstF.drew; clear hstF
            go_region_held3 (fun w' => (loadVarH 29 ⟨m, 1 + k * 35, none⟩).run Try.prog w' = .ok (.agg (List.toArray ((y.get k).cells))) w' ∧ (loadVarH 29 ⟨g2, 0, none⟩).run Try.prog w' = .ok (.agg (List.toArray ((PV.cells ⟨.slice ao n c, l, b, v, S⟩)))) w' ∧ (loadVarH 3 ⟨m, 0, none⟩).run Try.prog w' = .ok (.int .i64 y.lv) w' ∧ (loadVarH 3 ⟨g1, 0, none⟩).run Try.prog w' = .ok (.int .i64 x.lv) w' ∧ (loadVarH 51 ⟨m, 0, none⟩).run Try.prog w' = .ok (.agg (List.toArray (y.cells))) w' ∧ (loadVarH 51 ⟨gb, 0, none⟩).run Try.prog w' = .ok (.agg (List.toArray (z.cells))) w' ∧ (loadVarH 51 ⟨g1, 0, none⟩).run Try.prog w' = .ok (.agg (List.toArray (x.cells))) w')
              (first | exact ⟨ldA ((y.get k).cells) [_] hst114 (PV.len (HO.out.ln hxp.out.ln k)) (NV.at' (HO.out.ln hxp.out.ln) hk), ldA ((PV.cells ⟨.slice ao n c, l, b, v, S⟩)) [_, _] hst114 (PV.len hp.1) (by simp), ldS [_] hst114 rfl, ldS [_, _, _] hst114 rfl, ldA (y.cells) [_] hst114 (NV.len (HO.out.ln hxp.out.ln)) (NV.all y), ldA (z.cells) [] hst114 (NV.len (HZ.out.ln HB1.out.2)) (NV.all z), ldA (x.cells) [_, _, _] hst114 (NV.len hx.ln) (NV.all x)⟩ | exact ⟨ldA ((y.get k).cells) [_] hst113 (PV.len (HO.out.ln hxp.out.ln k)) (NV.at' (HO.out.ln hxp.out.ln) hk), ldA ((PV.cells ⟨.slice ao n c, l, b, v, S⟩)) [_, _] hst113 (PV.len hp.1) (by simp), ldS [_] hst113 rfl, ldS [_, _, _] hst113 rfl, ldA (y.cells) [_] hst113 (NV.len (HO.out.ln hxp.out.ln)) (NV.all y), ldA (z.cells) [] hst113 (NV.len (HZ.out.ln HB1.out.2)) (NV.all z), ldA (x.cells) [_, _, _] hst113 (NV.len hx.ln) (NV.all x)⟩ | exact ⟨ldA ((y.get k).cells) [_] hst112 (PV.len (HO.out.ln hxp.out.ln k)) (NV.at' (HO.out.ln hxp.out.ln) hk), ldA ((PV.cells ⟨.slice ao n c, l, b, v, S⟩)) [_, _] hst112 (PV.len hp.1) (by simp), ldS [_] hst112 rfl, ldS [_, _, _] hst112 rfl, ldA (y.cells) [_] hst112 (NV.len (HO.out.ln hxp.out.ln)) (NV.all y), ldA (z.cells) [] hst112 (NV.len (HZ.out.ln HB1.out.2)) (NV.all z), ldA (x.cells) [_, _, _] hst112 (NV.len hx.ln) (NV.all x)⟩ | exact ⟨ldA ((y.get k).cells) [_] hst111 (PV.len (HO.out.ln hxp.out.ln k)) (NV.at' (HO.out.ln hxp.out.ln) hk), ldA ((PV.cells ⟨.slice ao n c, l, b, v, S⟩)) [_, _] hst111 (PV.len hp.1) (by simp), ldS [_] hst111 rfl, ldS [_, _, _] hst111 rfl, ldA (y.cells) [_] hst111 (NV.len (HO.out.ln hxp.out.ln)) (NV.all y), ldA (z.cells) [] hst111 (NV.len (HZ.out.ln HB1.out.2)) (NV.all z), ldA (x.cells) [_, _, _] hst111 (NV.len hx.ln) (NV.all x)⟩)
              (first | (go_at_call 17; refine (same_pv (y.get k) ⟨.slice ao n c, l, b, v, S⟩ _ (HO.out.in hst111 (fun y hy => by simp only [List.append_eq, List.mem_cons, List.mem_append, hy, or_true, true_or]) hxp.out.ln k) (PV.In.old hst111 hp)).mono ?_; rw [q1.out]; rintro _ _ ⟨rfl, h4⟩; have hst112 := St.call0 hst111 h4; clear h4 hst111) | (go_at_call 42; refine (ncheck_any y _ (HO.out.in hst112 (fun y hy => by simp only [List.append_eq, List.mem_cons, List.mem_append, hy, or_true, true_or]) hxp.out.ln)).mono ?_; rw [q3.out]; rintro _ _ ⟨rfl, h4⟩; have hst113 := St.call0 hst112 h4; clear h4 hst112) | (go_at_call 37; refine (sameNode_any z x _ (HZ.out.in hst113 (fun y hy => by simp only [List.append_eq, List.mem_cons, List.mem_append, hy, or_true, true_or]) HB1.out.2) (NV.In.old hst113 hx)).mono ?_; rw [q4.out]; rintro _ _ ⟨rfl, h4⟩; have hst114 := St.call0 hst113 h4; clear h4 hst113))
            go_wp2_with (first | go_big_skip | go_big_guard | fail)
            go_goals
            all_goals (go_ret; exact ⟨rfl, hst114.nil⟩)
          · rw [if_pos (by rfl)]
            apply ow_alloc hstD
            rfl
            infer_instance
            intro gb _ hstB
            refine hK.out _ _ ?_ (fun hHeld => ?_)
            · exact ⟨ldA (y.cells) [_] hstB (NV.len (HO.out.ln hxp.out.ln)) (NV.all y), ldA ((x.get k).cells) [_, _, _] hstB (PV.len (hx.ln k)) (NV.at' hx.ln hk)⟩
            clear hK K
            (try simp only [Act.put, List.setIfInBounds_toArray, List.set_cons_zero, List.set_cons_succ])
            refine wpAnyH_ready (rs := [6]) (by kernel_rfl) (by simp) ?_
            refine (AllReadyH.cons (o := ⟨some 102, _, _, _, _, _⟩) rfl (fun K hK => ?_) AllReadyH.nil)
            go_simp
            go_at_call 46
            refine (set_yes y (x.get k) k _ (HB1.out.1 hstB (fun y hy => by simp only [List.mem_cons, List.mem_append, hy, or_true, true_or])) (PV.In.old hstB (hx k)) ((isO_ok (HLv.out.trans (NV.lv_set _ _ _).symm) HO.out).trans Hc2.out) hk ((back_ok hk HLv.out HO.out).trans Hc.out)).mono ?_
            rintro _ _ ⟨z, Q, rfl, h4, hl, hO⟩
            have HLz := hid hl
            have HZ := hid hO
            have hstE := (St.call hstB h4).perm List.perm_append_comm
            clear h4 hl hO
            refine hK.out _ _ ?_ (fun hHeld => ?_)
            · exact ⟨ldA (y.cells) [_] hstE (NV.len (HO.out.ln hxp.out.ln)) (NV.all y), ldA ((x.get k).cells) [_, _, _] hstE (PV.len (hx.ln k)) (NV.at' hx.ln hk)⟩
            clear hK K
            (try simp only [Act.put, List.setIfInBounds_toArray, List.set_cons_zero, List.set_cons_succ])
            refine wpAnyH_take (i := 7) (oi := ⟨some 95, _, _, _, _, _⟩) (v := ?_) rfl (by kernel_rfl) (by kernel_rfl) (by kernel_rfl) (fun _ _ _ h => h) (Or.inl ⟨by rfl, ?_⟩) (by assumption) ?_
            rotate_left
            · intro w hSw; (try dsimp only at hSw); go_simp; try with_reducible rfl
            (try simp only [Act.put, List.setIfInBounds_toArray, List.set_cons_zero, List.set_cons_succ])
            refine wpAnyH_take (i := 8) (oi := ⟨some 103, _, _, _, _, _⟩) (v := ?_) rfl (by kernel_rfl) (by kernel_rfl) (by kernel_rfl) (fun _ _ _ h => h) (Or.inl ⟨by rfl, ?_⟩) (by assumption) ?_
            rotate_left
            · intro w hSw; (try dsimp only at hSw); go_simp; try with_reducible rfl
            (try simp only [Act.put, List.setIfInBounds_toArray, List.set_cons_zero, List.set_cons_succ])
            refine wpAnyH_take (i := 9) (oi := ⟨some 104, _, _, _, _, _⟩) (v := ?_) rfl (by kernel_rfl) (by kernel_rfl) (by kernel_rfl) (fun _ _ _ h => h) (Or.inl ⟨by rfl, ?_⟩) (by assumption) ?_
            rotate_left
            · intro w hSw; (try dsimp only at hSw); go_simp; try with_reducible rfl
            (try simp only [Act.put, List.setIfInBounds_toArray, List.set_cons_zero, List.set_cons_succ])
            refine wpAnyH_ready (rs := [11]) (by kernel_rfl) (by simp) ?_
            refine (AllReadyH.cons (o := ⟨none, _, _, _, _, _⟩) rfl (fun K hK => ?_) AllReadyH.nil)
            rw [if_pos (by rfl)]
            apply ow_storeA [] hstE
            rfl
            exact rfl
            exact rfl
            infer_instance
            exact NV.len (HZ.out.ln HB1.out.2)
            exact NV.isO.ones HZ.out (HLz.out.trans (NV.lv_set _ _ _).symm)
            exact NV.len (zN_ln 0)
            intro _ hstF
            refine hK.out _ _ ?_ (fun hHeld => ?_)
            · exact ⟨ldA (y.cells) [_] hstF (NV.len (HO.out.ln hxp.out.ln)) (NV.all y), ldA ((x.get k).cells) [_, _, _] hstF (PV.len (hx.ln k)) (NV.at' hx.ln hk)⟩
            clear hK K
            (try simp only [Act.put, List.setIfInBounds_toArray, List.set_cons_zero, List.set_cons_succ])
            refine wpAnyH_take (i := 12) (oi := ⟨some 14, _, _, _, _, _⟩) (v := ?_) rfl (by kernel_rfl) (by kernel_rfl) (by kernel_rfl) (fun _ _ _ h => h) (Or.inl ⟨by rfl, ?_⟩) (by assumption) ?_
            rotate_left
            · intro w hSw; (try dsimp only at hSw); go_simp; try with_reducible rfl
            (try simp only [Act.put, List.setIfInBounds_toArray, List.set_cons_zero, List.set_cons_succ])
            refine wpAnyH_done (by kernel_rfl) ?_ _
            clear hHeld
            have q1 := hid (PV.eqd.same (isO_same hk HO.out))
            have q2 : (y.lv == x.lv) = true := by simpa using HLv.out
            have q3 := hid (NV.err_ok ((isO_ok (HLv.out.trans (NV.lv_set _ _ _).symm) HO.out).trans Hc2.out))
            have q4 := hid (back_same hk HLv.out HO.out HLz.out HZ.out)
            go_wp2_with (first | go_big_skip | go_big_guard | fail)
            have hst115 := hstF.drew; clear hstF
            go_region_held3 (fun w' => (loadVarH 29 ⟨m, 1 + k * 35, none⟩).run Try.prog w' = .ok (.agg (List.toArray ((y.get k).cells))) w' ∧ (loadVarH 29 ⟨g2, 0, none⟩).run Try.prog w' = .ok (.agg (List.toArray ((PV.cells ⟨.slice ao n c, l, b, v, S⟩)))) w' ∧ (loadVarH 3 ⟨m, 0, none⟩).run Try.prog w' = .ok (.int .i64 y.lv) w' ∧ (loadVarH 3 ⟨g1, 0, none⟩).run Try.prog w' = .ok (.int .i64 x.lv) w' ∧ (loadVarH 51 ⟨m, 0, none⟩).run Try.prog w' = .ok (.agg (List.toArray (y.cells))) w' ∧ (loadVarH 51 ⟨gb, 0, none⟩).run Try.prog w' = .ok (.agg (List.toArray (z.cells))) w' ∧ (loadVarH 51 ⟨g1, 0, none⟩).run Try.prog w' = .ok (.agg (List.toArray (x.cells))) w')
              (first | exact ⟨ldA ((y.get k).cells) [_] hst118 (PV.len (HO.out.ln hxp.out.ln k)) (NV.at' (HO.out.ln hxp.out.ln) hk), ldA ((PV.cells ⟨.slice ao n c, l, b, v, S⟩)) [_, _] hst118 (PV.len hp.1) (by simp), ldS [_] hst118 rfl, ldS [_, _, _] hst118 rfl, ldA (y.cells) [_] hst118 (NV.len (HO.out.ln hxp.out.ln)) (NV.all y), ldA (z.cells) [] hst118 (NV.len (HZ.out.ln HB1.out.2)) (NV.all z), ldA (x.cells) [_, _, _] hst118 (NV.len hx.ln) (NV.all x)⟩ | exact ⟨ldA ((y.get k).cells) [_] hst117 (PV.len (HO.out.ln hxp.out.ln k)) (NV.at' (HO.out.ln hxp.out.ln) hk), ldA ((PV.cells ⟨.slice ao n c, l, b, v, S⟩)) [_, _] hst117 (PV.len hp.1) (by simp), ldS [_] hst117 rfl, ldS [_, _, _] hst117 rfl, ldA (y.cells) [_] hst117 (NV.len (HO.out.ln hxp.out.ln)) (NV.all y), ldA (z.cells) [] hst117 (NV.len (HZ.out.ln HB1.out.2)) (NV.all z), ldA (x.cells) [_, _, _] hst117 (NV.len hx.ln) (NV.all x)⟩ | exact ⟨ldA ((y.get k).cells) [_] hst116 (PV.len (HO.out.ln hxp.out.ln k)) (NV.at' (HO.out.ln hxp.out.ln) hk), ldA ((PV.cells ⟨.slice ao n c, l, b, v, S⟩)) [_, _] hst116 (PV.len hp.1) (by simp), ldS [_] hst116 rfl, ldS [_, _, _] hst116 rfl, ldA (y.cells) [_] hst116 (NV.len (HO.out.ln hxp.out.ln)) (NV.all y), ldA (z.cells) [] hst116 (NV.len (HZ.out.ln HB1.out.2)) (NV.all z), ldA (x.cells) [_, _, _] hst116 (NV.len hx.ln) (NV.all x)⟩ | exact ⟨ldA ((y.get k).cells) [_] hst115 (PV.len (HO.out.ln hxp.out.ln k)) (NV.at' (HO.out.ln hxp.out.ln) hk), ldA ((PV.cells ⟨.slice ao n c, l, b, v, S⟩)) [_, _] hst115 (PV.len hp.1) (by simp), ldS [_] hst115 rfl, ldS [_, _, _] hst115 rfl, ldA (y.cells) [_] hst115 (NV.len (HO.out.ln hxp.out.ln)) (NV.all y), ldA (z.cells) [] hst115 (NV.len (HZ.out.ln HB1.out.2)) (NV.all z), ldA (x.cells) [_, _, _] hst115 (NV.len hx.ln) (NV.all x)⟩)
              (first | (go_at_call 17; refine (same_pv (y.get k) ⟨.slice ao n c, l, b, v, S⟩ _ (HO.out.in hst115 (fun y hy => by simp only [List.append_eq, List.mem_cons, List.mem_append, hy, or_true, true_or]) hxp.out.ln k) (PV.In.old hst115 hp)).mono ?_; rw [q1.out]; rintro _ _ ⟨rfl, h4⟩; have hst116 := St.call0 hst115 h4; clear h4 hst115) | (go_at_call 42; refine (ncheck_any y _ (HO.out.in hst116 (fun y hy => by simp only [List.append_eq, List.mem_cons, List.mem_append, hy, or_true, true_or]) hxp.out.ln)).mono ?_; rw [q3.out]; rintro _ _ ⟨rfl, h4⟩; have hst117 := St.call0 hst116 h4; clear h4 hst116) | (go_at_call 37; refine (sameNode_any z x _ (HZ.out.in hst117 (fun y hy => by simp only [List.append_eq, List.mem_cons, List.mem_append, hy, or_true, true_or]) HB1.out.2) (NV.In.old hst117 hx)).mono ?_; rw [q4.out]; rintro _ _ ⟨rfl, h4⟩; have hst118 := St.call0 hst117 h4; clear h4 hst117))
            go_wp2_with (first | go_big_skip | go_big_guard | fail)
            go_goals
            all_goals (go_ret; exact ⟨rfl, hst118.nil⟩)
end
end Go.Proofs.Ythjafocnfpphlaa
namespace Go.Proofs.Ythjafocnfpphlaa
open Go.RowKit Hp
attribute [local irreducible] Go.Calls
theorem sets_any (x : NV) (z : Int) (ao : Option Addr) (n c : Nat) (l : List (Int × Int)) (b v : Int) (S : List UInt8) (w : World) (hx : x.In w) (hp : PV.In w ⟨.slice ao n c, l, b, v, S⟩) (hz : -9223372036854775808 ≤ z ∧ z ≤ 9223372036854775807) :
    Calls Try.prog 12 #[.agg x.cells.toArray, .int .i64 z, .agg (PV.cells ⟨.slice ao n c, l, b, v, S⟩).toArray] w fun e w' => e = .returned (.bool true) ∧ St w [] w' [] := by
  by_cases hb : x.big = true
  · exact sets_far x z ao n c l b v S w hx hp (.inl hb)
  by_cases k2 : (20 : Int) < n
  · exact sets_far x z ao n c l b v S w hx hp (.inr k2)
  replace hb : x.big = false := by simpa using hb
  replace k2 : decide ((20 : Int) < n) = false := decide_eq_false k2
  obtain ⟨k, hk, hpick⟩ := pick_k z hz.1 hz.2
  by_cases hc : x.ok = true
  · by_cases hc2 : (x.set k ⟨.slice ao n c, l, b, v, S⟩).ok = true
    · exact sets_yes x z ao n c l b v S w hx hp hb k2 k hk hpick hc hc2
    · replace hc2 := Bool.eq_false_iff.2 hc2
      cases hq : PV.ok ⟨.slice ao n c, l, b, v, S⟩ with
      | false => exact sets_off x z ao n c l b v S w hx hp hb k2 k hk hpick hc hc2 hq
      | true => exact sets_unfit x z ao n c l b v S w hx hp hb k2 k hk hpick hc hc2 hq
  · replace hc := Bool.eq_false_iff.2 hc
    exact sets_no x z ao n c l b v S w hx hp hb k2 k hk hpick hc
end Go.Proofs.Ythjafocnfpphlaa
namespace Go.Proofs.Ythjafocnfpphlaa
open Go.ChangeShapes Go.WideShapes Go.ChangeAt Go.RowKit Hp
set_option maxRecDepth 100000 in
theorem nodeSets_lifted (os : Os) (started : os.Started) (H : Type) (enc : TypeId × Value → H) :
    ReturnsInHanded {} Try.checked os 12 .any (Rows.nodeSetsSpec.pre6 enc Try.prog Try.f12 Rows.nodeSetsRow.domain false) (Rows.nodeSetsSpec.post enc Try.prog Try.f12 false true false false) := by
  refine returnsInHanded_of_change (C := Try.checked) own started (by kernel_rfl) Try.func12
    (ChangeSpec.witness6 (enc := enc) (C := Try.checked) false ⟨#[], #[.agg #[.int .i64 0, .slice none 0 0, .int .i64 0, .int .i64 0, .int .u8 0, .int .u8 0, .int .u8 0, .int .u8 0, .int .u8 0, .int .u8 0, .int .u8 0, .int .u8 0, .int .u8 0, .int .u8 0, .int .u8 0, .int .u8 0, .int .u8 0, .int .u8 0, .int .u8 0, .int .u8 0, .int .u8 0, .int .u8 0, .int .u8 0, .int .u8 0, .int .u8 0, .int .u8 0, .int .u8 0, .int .u8 0, .int .u8 0, .int .u8 0, .int .u8 0, .int .u8 0, .int .u8 0, .int .u8 0, .int .u8 0, .int .u8 0, .slice none 0 0, .int .i64 0, .int .i64 0, .int .u8 0, .int .u8 0, .int .u8 0, .int .u8 0, .int .u8 0, .int .u8 0, .int .u8 0, .int .u8 0, .int .u8 0, .int .u8 0, .int .u8 0, .int .u8 0, .int .u8 0, .int .u8 0, .int .u8 0, .int .u8 0, .int .u8 0, .int .u8 0, .int .u8 0, .int .u8 0, .int .u8 0, .int .u8 0, .int .u8 0, .int .u8 0, .int .u8 0, .int .u8 0, .int .u8 0, .int .u8 0, .int .u8 0, .int .u8 0, .int .u8 0, .int .u8 0, .slice none 0 0, .int .i64 0, .int .i64 0, .int .u8 0, .int .u8 0, .int .u8 0, .int .u8 0, .int .u8 0, .int .u8 0, .int .u8 0, .int .u8 0, .int .u8 0, .int .u8 0, .int .u8 0, .int .u8 0, .int .u8 0, .int .u8 0, .int .u8 0, .int .u8 0, .int .u8 0, .int .u8 0, .int .u8 0, .int .u8 0, .int .u8 0, .int .u8 0, .int .u8 0, .int .u8 0, .int .u8 0, .int .u8 0, .int .u8 0, .int .u8 0, .int .u8 0, .int .u8 0, .int .u8 0, .int .u8 0, .slice none 0 0, .int .i64 0, .int .i64 0, .int .u8 0, .int .u8 0, .int .u8 0, .int .u8 0, .int .u8 0, .int .u8 0, .int .u8 0, .int .u8 0, .int .u8 0, .int .u8 0, .int .u8 0, .int .u8 0, .int .u8 0, .int .u8 0, .int .u8 0, .int .u8 0, .int .u8 0, .int .u8 0, .int .u8 0, .int .u8 0, .int .u8 0, .int .u8 0, .int .u8 0, .int .u8 0, .int .u8 0, .int .u8 0, .int .u8 0, .int .u8 0, .int .u8 0, .int .u8 0, .int .u8 0, .int .u8 0], .int .i64 0, .agg #[.slice none 0 0, .int .i64 0, .int .i64 0, .int .u8 0, .int .u8 0, .int .u8 0, .int .u8 0, .int .u8 0, .int .u8 0, .int .u8 0, .int .u8 0, .int .u8 0, .int .u8 0, .int .u8 0, .int .u8 0, .int .u8 0, .int .u8 0, .int .u8 0, .int .u8 0, .int .u8 0, .int .u8 0, .int .u8 0, .int .u8 0, .int .u8 0, .int .u8 0, .int .u8 0, .int .u8 0, .int .u8 0, .int .u8 0, .int .u8 0, .int .u8 0, .int .u8 0, .int .u8 0, .int .u8 0, .int .u8 0]], []⟩ 8 (by kernel_rfl) (by kernel_rfl) (by kernel_rfl) (by kernel_rfl)) ?_
  intro W base args ds gs before hval0 hW hcnd _
  have hval : ∀ (j : Nat) t v, Try.f12.params[j]? = some t → args[j]? = some v → Value.okWide Try.prog W .any base t v := hval0
  have hW' := hW
  obtain ⟨p, q, hAA0, hV, rfl, hfz, hnd⟩ := hW
  have hA : DataW.TrodAll enc Try.prog W 0 (fun _ => true) true Try.f12.params.toList args.toList ds p := hAA0
  rw [Try.params12] at hA hval
  have hk := hA
  obtain ⟨v0, v1, v2, d0, d1, d2, p0, p1, p2, rfl, rfl, rfl, h0, h1, h2⟩ := trodAll_three hA
  obtain ⟨rfl, rfl⟩ := trodVars_none hV
  obtain ⟨n0, h0⟩ := h0
  obtain ⟨x0, rfl, hA0⟩ := open_node (hval 0 _ v0 rfl rfl) h0
  obtain ⟨n1, h1⟩ := h1
  obtain ⟨z1, rfl, hl1, hu1⟩ := open_int (hval 1 _ v1 rfl rfl) h1
  obtain ⟨n2, h2⟩ := h2
  obtain ⟨ao2, n2, c2, b2, v2', S2, l2, rfl, hS2, hA2, hn2⟩ := open_pointer (hval 2 _ v2 rfl rfl) h2
  clear hAA0 hval0
  simp only [List.append_nil] at hW'
  refine (sets_any x0 z1 ao2 n2 c2 l2 b2 v2' S2 W hA0 ⟨hS2, ao2, n2, c2, rfl, hA2, hn2⟩ ⟨hl1, hu1⟩).mono fun e W' ⟨he, hg⟩ => ?_
  subst he
  exact ⟨_, rfl, post_of_kept (pv := []) hW' (fun _ _ _ => (trodAll_cons_mk (shut_bool Try.underlying4 _) trodAll_mk0)) (fun sp hsp => by
      rw [Try.params12]
      exact args_kept (by decide) hk hg.below (fun p hp => hW'.lt p hp) sp hsp) (fun _ _ => rfl) (by simp)
    (hg.below.frame _)⟩
theorem nodeSets_over : Rows.nodeSetsRow.holds Try.pinned (OpenSpec.ofChange Rows.nodeSetsSpec) :=
  OpenClaim.holds_of_wide 12 Try.f12 rfl rfl rfl rfl rfl rfl rfl ⟨rfl, rfl, rfl, rfl, rfl⟩ rfl rfl rfl rfl rfl (by kernel_rfl) Try.func12 (by kernel_rfl)
    (of_decide_eq_true (by kernel_rfl)) (by unfold Func.isWrapper; first | (rw [if_pos (by decide +kernel)]; kernel_rfl) | (rw [if_neg (by decide +kernel)]; exact ⟨rfl, rfl⟩))
    (fun os started H enc _ => nodeSets_lifted os started H enc)

theorem nodeSets_proved : Rows.NodeSetsSaid :=
  nodeSets_over
end Go.Proofs.Ythjafocnfpphlaa
