/- The window of the last sixteen words. No program in sight. -/
import Derived.Test.YtilgjldnlgfehaaHs
import Derived.Test.YtilgjldnlgfehaaPtr
namespace Go.Proofs.Ytilgjldnlgfehaa
set_option linter.unusedVariables false
set_option linter.unusedSimpArgs false
open Hp
def win (p : List UInt8) : Nat → List Wd
  | 0 => List.replicate 16 0
  | i + 1 => (win p i).set (i % 16) (wdAt p i)
theorem length_win (p : List UInt8) (i : Nat) : (win p i).length = 16 := by
  induction i with
  | zero => rfl
  | succ i ih => simp [win, ih]
theorem win_get (p : List UInt8) {i t : Nat} (h : t < i) (h2 : i ≤ t + 16) : (win p i).getD (t % 16) 0 = wdAt p t := by
  induction i with
  | zero => omega
  | succ i ih =>
    have hm := Nat.mod_lt i (show 0 < 16 by decide)
    by_cases e : t = i
    · subst e
      simp only [win, List.getD]
      rw [List.getElem?_set_self (by rw [length_win]; exact hm)]
      rfl
    · have hne : i % 16 ≠ t % 16 := by omega
      rw [← ih (by omega) (by omega)]
      simp only [win, List.getD]
      rw [List.getElem?_set_ne hne]
theorem length_wordsV (l : List Wd) : (wordsV l).length = l.length := by simp [wordsV]
theorem words_get (l : List Wd) {k : Nat} (hk : k < l.length) : (wordsV l)[k]? = some (.int .u32 (wI (l.getD k 0))) := by
  simp [wordsV, List.getD, hk]
theorem put_words (l : List Wd) {k : Nat} (hk : k < l.length) (x : Wd) : putAt (wordsV l) k [.int .u32 (wI x)] = wordsV (l.set k x) := by
  have h1 : l.set k x = l.take k ++ x :: l.drop (k + 1) := by
    rw [List.set_eq_take_append_cons_drop, if_pos hk]
  rw [h1]
  simp [putAt, wordsV]
theorem ones_words (l : List Wd) : (wordsV l).all (·.oneCell') = true := by
  rw [List.all_eq_true]
  intro v hv
  simp only [wordsV, List.mem_map] at hv
  obtain ⟨x, _, rfl⟩ := hv
  rfl
theorem wordsV_rep (n : Nat) : wordsV (List.replicate n 0) = List.replicate n (.int .u32 0) := by
  simp [wordsV]
  right
  rfl
end Go.Proofs.Ytilgjldnlgfehaa
