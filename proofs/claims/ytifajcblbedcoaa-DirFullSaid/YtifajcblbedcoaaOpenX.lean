/- A bool that comes from outside. -/
import Derived.Test.YtifajcblbedcoaaOpenB
namespace Go.Proofs.Ytifajcblbedcoaa
set_option linter.unusedVariables false
set_option linter.unusedSimpArgs false
open Go.ChangeShapes Go.WideShapes Go.ChangeAt Go.RowKit Hp
set_option maxRecDepth 100000 in
theorem open_bool13 {H : Type} {enc : TypeId × Value → H} {W : World} {base fuel : Nat} {v : Value} {x : DataW H × List MemPlace} (hv : Value.okWide Try.prog W .any base 4 v)
    (h : DataW.trod enc Try.prog W 0 (fun _ => true) true fuel 4 v.cells.toList = some x) : ∃ z : Bool, v = .bool z := by
  obtain ⟨z, e, _⟩ := DataW.trod_bool Try.underlying4 h
  have hv' : ∃ z', v = .bool z' := by
    unfold Value.okWide at hv
    rw [Try.underlying4] at hv
    simp only [Cell.okWide, Try.underlying4] at hv
    cases v <;> simp_all [Cell.ok]
  obtain ⟨z', rfl⟩ := hv'
  exact ⟨_, rfl⟩
end Go.Proofs.Ytifajcblbedcoaa
