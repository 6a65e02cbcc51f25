import Derived.Test.YtifajcblbedcoaaNT4
import Derived.Test.YtifajcblbedcoaaNmL
namespace Go.Proofs.Ytifajcblbedcoaa
set_option linter.unusedVariables false
set_option linter.unusedSimpArgs false
open Go.RowKit Hp
attribute [local irreducible] Go.Calls
set_option maxHeartbeats 1000000
theorem bytesLess_lt : ∀ (x y : List UInt8), Op.bytesLess x y = decide (x < y)
  | [], [] => by simp [Op.bytesLess]
  | _ :: _, [] => by simp [Op.bytesLess]
  | [], _ :: _ => by simp [Op.bytesLess]
  | a :: x, b :: y => by
    rw [Op.bytesLess, bytesLess_lt x y]
    simp only [List.cons_lt_cons_iff]
    by_cases h1 : a < b <;> by_cases h2 : a = b <;> by_cases h3 : x < y <;> simp [h1, h2, h3]
theorem bl (a b : List UInt8) : Op.bytesLess a b = decide (Lib.compareBytes a b < 0) := by
  rw [bytesLess_lt, Bool.eq_iff_iff]; simp [cb_lt]
theorem ref_val {p q a b a' b' : List UInt8} {f f' : Bool} (hx : cutL p = (a, b, f)) (hy : cutL q = (a', b', f')) :
    lessL p q = if a = a' then (if (!f || !f') then (!f && f') else Op.bytesLess b b') else Op.bytesLess a a' := by
  simp only [bl, lessL, cmp3, hx, hy]
  by_cases h : a = a'
  · subst h
    rw [if_pos rfl]
    cases f <;> cases f'
    · have h1 := (cutL_false (l := p) (by rw [hx])).2
      have h2 := (cutL_false (l := q) (by rw [hy])).2
      rw [hx] at h1; rw [hy] at h2
      simp only at h1 h2
      simp [cb_self, orI, ordL, h1, h2]
    · simp [cb_self, orI, ordL, Lib.compareBytes]
    · simp [cb_self, orI, ordL, Lib.compareBytes]
    · simp [cb_self, orI]
  · rw [if_neg h]
    have : Lib.compareBytes a a' ≠ 0 := fun e => h (cb_eq e)
    simp [orI, this]
end Go.Proofs.Ytifajcblbedcoaa
