/- Strings among the arguments, opened. -/
import Derived.Test.YtkpkaoiafppimaaPost
namespace Go.Proofs.Ytkpkaoiafppimaa
set_option linter.unusedVariables false
set_option linter.unusedSimpArgs false
open Go.ChangeShapes Go.WideShapes Go.ChangeAt Go.RowKit
set_option maxRecDepth 100000
theorem open_str {W : World} {base : Nat} {v : Value} (hv : Value.okWide Try.prog W .any base 9 v) : ∃ l : List UInt8, v = .string ⟨l.toArray⟩ ∧ l.length ≤ 9223372036854775807 := by
  obtain ⟨s, rfl⟩ := okWide_string Try.underlying9 hv
  refine ⟨s.data.toList, rfl, ?_⟩
  unfold Value.okWide at hv
  rw [Try.underlying9] at hv
  simp only [Cell.okWide, Try.underlying9, Cell.ok] at hv
  have h4 : IntKind.i64.max = 9223372036854775807 := rfl
  rw [h4] at hv
  have h5 : s.data.toList.length = s.size := by rw [Array.length_toList]; rfl
  omega
end Go.Proofs.Ytkpkaoiafppimaa
