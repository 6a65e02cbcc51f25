/- More plain laws on pointers. No program in sight. -/
import Derived.Test.YtifajcblbedcoaaGreatPtrL
namespace Go.Proofs.YtifajcblbedcoaaGreat
set_option linter.unusedVariables false
set_option linter.unusedSimpArgs false
open Hp
theorem like_refl (n : Nat) (b v : Int) (S : List UInt8) : likeB n n b v b v S S = true := by simp [likeB]
theorem hole_iff {l : List (Int × Int)} {b v : Int} {S : List UInt8} (h : checkB l b v S = true) : holeB l.length b v S = decide (l.length = 0) := by
  unfold checkB at h
  rw [Bool.or_eq_true] at h
  rcases h with h | h
  · rw [h]
    simp only [holeB, Bool.and_eq_true, decide_eq_true_eq] at h
    simp [h.1]
  · simp only [mayB, Bool.and_eq_true, decide_eq_true_eq] at h
    have : l.length ≠ 0 := by omega
    simp [holeB, this]
theorem rOK_parts {bs : List UInt8} (h : rOK bs = true) : checkB (rAddrs bs 3) (rBirth bs) (rLevel bs) (rSum bs) = true ∧ (bytesP (rAddrs bs 3) (rBirth bs) (rLevel bs) (rSum bs) == bs) = true := by
  unfold rOK at h
  simp only [Bool.and_eq_true] at h
  exact ⟨h.2.1, h.2.2⟩
theorem rAt_bd (bs : List UInt8) : 0 ≤ rAt bs ∧ rAt bs ≤ bs.length := by
  unfold rAt
  split
  · omega
  · split <;> omega
theorem rErr_ne (bs : List UInt8) : rErr bs ≠ 0 := by unfold rErr; split <;> decide
end Go.Proofs.YtifajcblbedcoaaGreat
