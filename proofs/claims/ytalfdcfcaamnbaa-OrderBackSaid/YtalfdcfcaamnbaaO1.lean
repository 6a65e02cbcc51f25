import Derived.Test.YtalfdcfcaamnbaaOTy
namespace Go.Proofs.Ytalfdcfcaamnbaa
set_option linter.unusedVariables false
set_option linter.unusedSimpArgs false
open Go.RowKit Hp
attribute [local irreducible] Go.Calls
set_option maxRecDepth 100000
set_option maxHeartbeats 4000000
def withinB (n : Int) : Bool := decide (n ≥ 0) && decide (n ≤ 2147483647)
/-- Which fields an Op may have set. -/
def usesL (op : Int) : List Bool :=
  if op = 1 ∨ op = 7 then [true, false, true, false, false, false]
  else if op = 2 ∨ op = 4 ∨ op = 5 ∨ op = 9 ∨ op = 15 ∨ op = 16 then [true, false, false, false, false, false]
  else if op = 3 ∨ op = 6 ∨ op = 10 then [true, true, false, false, false, false]
  else if op = 8 ∨ op = 12 ∨ op = 14 then [true, false, true, true, false, false]
  else if op = 11 then [false, false, false, false, true, false]
  else if op = 13 then [true, false, true, false, false, true]
  else if op = 18 ∨ op = 20 ∨ op = 21 then [false, false, true, false, false, false]
  else [false, false, false, false, false, false]
def us (op : Int) (i : Nat) : Bool := (usesL op).getD i false
def usesC (op : Int) : List Value := [.bool (us op 0), .bool (us op 1), .bool (us op 2), .bool (us op 3), .bool (us op 4), .bool (us op 5)]
def usesAll : List Value := (List.range 25).flatMap fun (k : Nat) => usesC (k : Int)
theorem usesAll_at {k : Nat} (h : k < 25) : (usesAll.drop (k * 6)).take 6 = usesC (k : Int) := by
  have e : (List.range 25).map (fun (k : Nat) => (usesAll.drop (k * 6)).take 6) = (List.range 25).map fun (k : Nat) => usesC (k : Int) := by kernel_rfl
  have := congrArg (fun l => l[k]?) e
  simpa [h] using this
theorem usesC_none {op : Int} (h : op < 0 ∨ 25 ≤ op) : usesC op = [.bool false, .bool false, .bool false, .bool false, .bool false, .bool false] := by
  have e : usesL op = [false, false, false, false, false, false] := by
    unfold usesL
    rw [if_neg (by omega), if_neg (by omega), if_neg (by omega), if_neg (by omega), if_neg (by omega), if_neg (by omega), if_neg (by omega)]
  unfold usesC us
  rw [e]
  rfl
theorem within_any (n : Int) (w : World) : Calls Try.prog 40 #[.int .i64 n] w fun e w' => e = .returned (.bool (withinB n)) ∧ St w [] w' [] := by
  have hst := St.refl w
  unfold withinB
  by_cases h1 : n ≥ 0
  · have d1 : decide (n ≥ 0) = true := decide_eq_true h1
    have d2 : decide (0 ≤ n) = true := d1
    rw [d1]
    clear h1
    go_enter Try.func40, Try.ntmps40
    go_wp2_with (first | go_big_skip | go_big_guard | fail)
    go_ret
    exact ⟨rfl, hst⟩
  · have d1 : decide (n ≥ 0) = false := decide_eq_false h1
    have d2 : decide (0 ≤ n) = false := d1
    rw [d1]
    clear h1
    go_enter Try.func40, Try.ntmps40
    go_wp2_with (first | go_big_skip | go_big_guard | fail)
    go_ret
    exact ⟨rfl, hst⟩
theorem number_any (n : Int) (w : World) : Calls Try.prog 42 #[.int .i64 n] w fun e w' => e = .returned (.bool (withinB n)) ∧ St w [] w' [] := by
  have hst := St.refl w
  unfold withinB
  by_cases h1 : n ≥ 0
  · have d1 : decide (n ≥ 0) = true := decide_eq_true h1
    have d2 : decide (0 ≤ n) = true := d1
    rw [d1]
    clear h1
    go_enter Try.func42, Try.ntmps42
    go_wp2_with (first | go_big_skip | go_big_guard | fail)
    go_ret
    exact ⟨rfl, hst⟩
  · have d1 : decide (n ≥ 0) = false := decide_eq_false h1
    have d2 : decide (0 ≤ n) = false := d1
    rw [d1]
    clear h1
    go_enter Try.func42, Try.ntmps42
    go_wp2_with (first | go_big_skip | go_big_guard | fail)
    go_ret
    exact ⟨rfl, hst⟩
theorem long_any (s : List UInt8) (w : World) : Calls Try.prog 39 #[strV s] w fun e w' => e = .returned (.bool (decide ((48 : Int) < (s.length : Int)))) ∧ St w [] w' [] := by
  have hst := St.refl w
  have hsz : (⟨s.toArray⟩ : ByteArray).size = s.length := by simp [ByteArray.size]
  unfold strV
  go_enter Try.func39, Try.ntmps39
  go_wp2_with (first | go_big_skip | go_big_guard | fail)
  go_ret
  exact ⟨rfl, hst⟩
end Go.Proofs.Ytalfdcfcaamnbaa
