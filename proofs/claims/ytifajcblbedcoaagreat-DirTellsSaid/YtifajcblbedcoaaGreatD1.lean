import Derived.Test.YtifajcblbedcoaaGreatDTy
import Derived.Deep.RegionHeld3
import Derived.IntWalk
namespace Go.Proofs.YtifajcblbedcoaaGreat
set_option linter.unusedVariables false
set_option linter.unusedSimpArgs false
open Go.RowKit Hp
attribute [local irreducible] Go.Calls
set_option maxRecDepth 100000
set_option maxHeartbeats 4000000
theorem within_any (n lo hi : Int) (w : World) : Calls Tryz.prog 47 #[.int .i64 n, .int .i64 lo, .int .i64 hi] w fun e w' => e = .returned (.bool (inB n lo hi)) ∧ St w [] w' [] := by
  have hst := St.refl w
  unfold inB
  by_cases h1 : lo ≤ n
  · have d1 : decide (n ≥ lo) = true := decide_eq_true h1
    have d2 : decide (lo ≤ n) = true := d1
    rw [d2]
    clear h1
    go_enter Tryz.func47, Tryz.ntmps47
    go_wp2_with (first | go_big_skip | go_big_guard | fail)
    go_ret
    exact ⟨rfl, hst⟩
  · have d1 : decide (n ≥ lo) = false := decide_eq_false h1
    have d2 : decide (lo ≤ n) = false := d1
    rw [d2]
    clear h1
    go_enter Tryz.func47, Tryz.ntmps47
    go_wp2_with (first | go_big_skip | go_big_guard | fail)
    go_ret
    exact ⟨rfl, hst⟩
theorem refWithin_any (n lo hi : Int) (w : World) : Calls Tryz.prog 122 #[.int .i64 n, .int .i64 lo, .int .i64 hi] w fun e w' => e = .returned (.bool (inB n lo hi)) ∧ St w [] w' [] := by
  have hst := St.refl w
  unfold inB
  by_cases h1 : lo ≤ n
  · have d1 : decide (n ≥ lo) = true := decide_eq_true h1
    have d2 : decide (lo ≤ n) = true := d1
    rw [d2]
    clear h1
    go_enter Tryz.func122, Tryz.ntmps122
    go_wp2_with (first | go_big_skip | go_big_guard | fail)
    go_ret
    exact ⟨rfl, hst⟩
  · have d1 : decide (n ≥ lo) = false := decide_eq_false h1
    have d2 : decide (lo ≤ n) = false := d1
    rw [d2]
    clear h1
    go_enter Tryz.func122, Tryz.ntmps122
    go_wp2_with (first | go_big_skip | go_big_guard | fail)
    go_ret
    exact ⟨rfl, hst⟩
theorem heldInt (A : Addr) : loadVar 3 A = loadVarH 3 A := rfl
theorem heldStr (A : Addr) : loadVar 9 A = loadVarH 9 A := rfl
theorem heldRecs (A : Addr) : loadVar 22 A = loadVarH 22 A := rfl
theorem heldInts (A : Addr) : loadVar 25 A = loadVarH 25 A := rfl
theorem heldRec (A : Addr) : loadVar 53 A = loadVarH 53 A := rfl
theorem heldTab (A : Addr) : loadVar 27 A = loadVarH 27 A := rfl
theorem heldPtr (A : Addr) : loadVar 32 A = loadVarH 32 A := rfl
theorem heldCur (A : Addr) : loadVar 24 A = loadVarH 24 A := rfl
def capV (fn : Nat) (g : Nat) : Value := .func (.func fn) #[] #[.pointer (some ⟨g, 0, none⟩)]
theorem findC_any {w : World} {g : Nat} {name : List UInt8} (h0 : w.cell? ⟨g, 0, none⟩ = some (.string ⟨name.toArray⟩)) (x : Value × RC) (hx : RC.In w x) : Calls Tryz.prog 114 #[.agg (cellsR x).toArray, .pointer (some ⟨g, 0, none⟩)] w fun e w' => e = .returned (.bool (x.2.name == name)) ∧ St w [] w' [] := by
  have hst0 := St.refl w
  have H0 := hid h0
  clear h0
  go_enter Tryz.func114, Tryz.ntmps114
  go_wp2_with (first | go_big_skip | go_big_guard | (refine wl_boxA hst0 rfl rfl rfl ?_; intro g4 w1 hst1; clear hst0) | (refine wl_loadE rfl rfl rfl ?_; first | refine ⟨_, Loads.at [] hst1 rfl, ?_⟩ | refine ⟨_, Loads.old hst1 H0.out, ?_⟩) | (refine wl_eqS rfl rfl rfl rfl ?_))
  go_ret
  exact ⟨rfl, hst1.nil⟩
end Go.Proofs.YtifajcblbedcoaaGreat
