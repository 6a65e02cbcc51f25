/- What a writer writes, as plain data. No program in sight. -/
import Derived.Test.YtalfdcfcaamnbaaNum
import Derived.Test.YtalfdcfcaamnbaaSepQ
namespace Go.Proofs.Ytalfdcfcaamnbaa
set_option linter.unusedVariables false
set_option linter.unusedSimpArgs false
open Go.RowKit Hp
/-- An error's number, and bytes. -/
abbrev WR := Int × List UInt8
def numR (n size : Int) : WR := if size < 1 ∨ 7 < size then (2, []) else if n < 0 ∨ n / 2 ^ (8 * size).toNat ≠ 0 then (5, []) else (0, numB n size.toNat)
def textR (s : List UInt8) (most : Int) : WR := if most < 0 ∨ 255 < most then (2, []) else if most < s.length then (3, []) else (0, UInt8.ofNat s.length :: (s ++ List.replicate (most.toNat - s.length) 0))
def padR (to : Int) (m : Nat) : WR := if 65536 < to ∨ to < m then (2, []) else (0, List.replicate (to.toNat - m) 0)
/-- What is told stands behind, or there is an error. -/
def putW (s r : WR) : WR := if s.1 ≠ 0 then s else if r.1 ≠ 0 then (r.1, s.2) else if 65536 < s.2.length + r.2.length then (3, s.2) else (0, s.2 ++ r.2)
theorem putW_bad {e : Int} {B : List UInt8} {r : WR} (h : e ≠ 0) : putW (e, B) r = (e, B) := by simp [putW, h]
theorem putW_err {B : List UInt8} {r : WR} (h : r.1 ≠ 0) : putW (0, B) r = (r.1, B) := by simp [putW, h]
theorem putW_long {B : List UInt8} {r : WR} (h : r.1 = 0) (hl : 65536 < B.length + r.2.length) : putW (0, B) r = (3, B) := by simp [putW, h, hl]
theorem putW_ok {B : List UInt8} {r : WR} (h : r.1 = 0) (hl : ¬ 65536 < B.length + r.2.length) : putW (0, B) r = (0, B ++ r.2) := by simp [putW, h, hl]
theorem putW_len {s r : WR} (h : s.2.length ≤ 65536) : (putW s r).2.length ≤ 65536 := by
  unfold putW
  split
  · exact h
  · split
    · exact h
    · split
      · exact h
      · rw [List.length_append]; omega
end Go.Proofs.Ytalfdcfcaamnbaa
