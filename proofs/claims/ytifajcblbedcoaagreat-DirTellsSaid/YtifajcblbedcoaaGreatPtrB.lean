import Derived.Test.YtifajcblbedcoaaGreatPtr
import Derived.Test.YtifajcblbedcoaaGreatNum
namespace Go.Proofs.YtifajcblbedcoaaGreat
set_option linter.unusedVariables false
set_option linter.unusedSimpArgs false
open Hp
def addrB (l : List (Int × Int)) (i : Nat) : List UInt8 := numB (l.getD i (0, 0)).1 1 ++ numB (l.getD i (0, 0)).2 2
def addrsB (l : List (Int × Int)) : Nat → List UInt8
  | 0 => []
  | k + 1 => addrsB l k ++ addrB l k
def bytesP (l : List (Int × Int)) (b v : Int) (S : List UInt8) : List UInt8 := numB l.length 1 ++ addrsB l 3 ++ numB b 4 ++ numB v 1 ++ S
theorem okA_bd : ∀ (l : List (Int × Int)), okA l = true → ∀ x ∈ l, 0 ≤ x.1 ∧ x.1 < 8 ∧ 5 ≤ x.2 ∧ x.2 < 4096
  | [], _, x, h => by simp at h
  | y :: l, ho, x, h => by
    simp only [okA, Bool.and_eq_true] at ho
    rcases List.mem_cons.1 h with rfl | h
    · simpa [validA] using ho.1.2
    · exact okA_bd l ho.1.1 x h
theorem check_bd {l : List (Int × Int)} {b v : Int} {S : List UInt8} (h : checkB l b v S = true) :
    l.length ≤ 3 ∧ 0 ≤ b ∧ b ≤ 2147483648 ∧ 0 ≤ v ∧ v ≤ 3 ∧ ∀ i, 0 ≤ (l.getD i (0, 0)).1 ∧ (l.getD i (0, 0)).1 < 8 ∧ 0 ≤ (l.getD i (0, 0)).2 ∧ (l.getD i (0, 0)).2 < 4096 := by
  unfold checkB at h
  rw [Bool.or_eq_true] at h
  rcases h with h | h
  · simp only [holeB, nothingB, Bool.and_eq_true, decide_eq_true_eq] at h
    have hl : l = [] := List.eq_nil_of_length_eq_zero h.1
    subst hl
    refine ⟨by simp, by omega, by omega, by omega, by omega, fun i => ?_⟩
    simp
  · simp only [mayB, Bool.and_eq_true, decide_eq_true_eq] at h
    refine ⟨h.1.2.2, by omega, by omega, by omega, by omega, fun i => ?_⟩
    by_cases hi : i < l.length
    · have := okA_bd _ h.1.1 (l.getD i (0, 0)) (by rw [List.mem_reverse]; simp [List.getD, hi])
      omega
    · simp [List.getD, List.getElem?_eq_none (Nat.le_of_not_lt hi)]
end Go.Proofs.YtifajcblbedcoaaGreat
