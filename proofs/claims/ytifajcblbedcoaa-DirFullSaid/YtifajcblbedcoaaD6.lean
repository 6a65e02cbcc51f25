/- Where a name stands in a table. -/
import Derived.Test.YtifajcblbedcoaaD2
import Derived.Test.YtifajcblbedcoaaNT1
namespace Go.Proofs.Ytifajcblbedcoaa
set_option linter.unusedVariables false
set_option linter.unusedSimpArgs false
open Go.RowKit Hp
attribute [local irreducible] Go.Calls
set_option maxRecDepth 100000
set_option maxHeartbeats 4000000
/-- A table as a value. -/
def tabC (t : TC) (rv lv : Value) : List Value := [.int .i64 t.next, rv, .int .i64 t.kind, .int .i64 t.dev, .int .i64 t.at_, .int .i64 t.txg, lv]
def findP (name : List UInt8) (l : List RC) : Int × Bool := if findN name l < 0 then (0, false) else (findN name l, true)
theorem findP_at {name : List UInt8} {xs : List (Value × RC)} {j : Nat} {x : Value × RC} (hj : xs[j]? = some x) (hx : (x.2.name == name) = true) (h0 : ∀ y ∈ xs.take j, (y.2.name == name) = false) : findP name (xs.map (·.2)) = ((j : Int), true) := by
  obtain ⟨hlt, hg⟩ := List.getElem?_eq_some_iff.1 hj
  have e : findN name (xs.map (·.2)) = j := by
    unfold findN
    rw [idxI_map]
    exact idxI_first hlt (by show (xs[j].2.name == name) = true; rw [hg]; exact hx) (fun i hi => h0 _ (by rw [List.mem_take_iff_getElem]; exact ⟨i, by omega, rfl⟩))
  unfold findP
  rw [e, if_neg (by omega)]
theorem findP_no {name : List UInt8} {xs : List (Value × RC)} (h0 : ∀ y ∈ xs, (y.2.name == name) = false) : findP name (xs.map (·.2)) = (0, false) := by
  have e : findN name (xs.map (·.2)) = -1 := by
    unfold findN
    rw [idxI_map]
    exact idxI_none (fun y hy => h0 y hy)
  unfold findP
  rw [e, if_pos (by omega)]
theorem find_any (t : TC) (lv : Value) (name : List UInt8) (ar : Option Addr) (nr cr : Nat) (xs : List (Value × RC)) (w : World) (hR : RecsIn w (.slice ar nr cr) nr xs) (hb : nr ≤ 1000000) :
    Calls Try.prog 33 #[.agg (tabC t (.slice ar nr cr) lv).toArray, str name] w fun e w' => e = .returned (.tuple #[.int .i64 (findP name (xs.map (·.2))).1, .bool (findP name (xs.map (·.2))).2]) ∧ St w [] w' [] := by
  have hst0 := St.refl w
  have HR := hid hR
  clear hR
  unfold findP
  have HN := hid (show idxI (fun x => x.name == name) (xs.map (·.2)) = findN name (xs.map (·.2)) from rfl)
  obtain ⟨n, hn⟩ : ∃ n, n = findN name (xs.map (·.2)) := ⟨_, rfl⟩
  rw [← hn]
  have HN2 := hid hn
  clear hn
  by_cases h0 : n < 0
  · have d1 : decide (n ≥ 0) = false := decide_eq_false (by omega)
    have d2 : decide (0 ≤ n) = false := d1
    have m1 : max n 0 = 0 := by rw [Int.max_def]; split <;> omega
    rw [if_pos h0]
    clear h0
    go_enter Try.func33, Try.ntmps33
    go_wp2_with (first | go_big_skip | go_big_guard | (refine wl_boxA hst0 rfl rfl rfl ?_; intro g1 w1 hst1; clear hst0) | (refine wl_box hst1 rfl rfl rfl ?_; intro g2 w2 hst2; clear hst1) | (refine wl_loadE rfl rfl rfl ?_; first | refine ⟨_, Loads.at [_] hst2 rfl, ?_⟩) | (go_at_call 64; refine (indexR_any 65 g2 (fun x => x.name == name) ar nr cr xs _ (fun _ _ => rfl) (fun x w' hx h => findC_any (St.old_cell h (hst2.cell (g := g2) (off := 0) (.head _) rfl) (by simp)) x ((HR.out.old (hst2.nil)).old h |>.each x hx)) (HR.out.old hst2.nil) hb).mono ?_; rw [HN.out, ← HN2.out]; rintro _ w9 ⟨rfl, h4⟩; have hst := St.call0 hst2 h4; clear h4))
    go_ret2
    exact ⟨rfl, hst.nil⟩
  · have d1 : decide (n ≥ 0) = true := decide_eq_true (by omega)
    have d2 : decide (0 ≤ n) = true := d1
    have m1 : max n 0 = n := by rw [Int.max_def]; split <;> omega
    rw [if_neg h0]
    clear h0
    go_enter Try.func33, Try.ntmps33
    go_wp2_with (first | go_big_skip | go_big_guard | (refine wl_boxA hst0 rfl rfl rfl ?_; intro g1 w1 hst1; clear hst0) | (refine wl_box hst1 rfl rfl rfl ?_; intro g2 w2 hst2; clear hst1) | (refine wl_loadE rfl rfl rfl ?_; first | refine ⟨_, Loads.at [_] hst2 rfl, ?_⟩) | (go_at_call 64; refine (indexR_any 65 g2 (fun x => x.name == name) ar nr cr xs _ (fun _ _ => rfl) (fun x w' hx h => findC_any (St.old_cell h (hst2.cell (g := g2) (off := 0) (.head _) rfl) (by simp)) x ((HR.out.old (hst2.nil)).old h |>.each x hx)) (HR.out.old hst2.nil) hb).mono ?_; rw [HN.out, ← HN2.out]; rintro _ w9 ⟨rfl, h4⟩; have hst := St.call0 hst2 h4; clear h4))
    go_ret2
    exact ⟨rfl, hst.nil⟩
end Go.Proofs.Ytifajcblbedcoaa
