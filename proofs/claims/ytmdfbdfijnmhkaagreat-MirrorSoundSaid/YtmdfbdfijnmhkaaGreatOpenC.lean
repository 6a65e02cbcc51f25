import Derived.Test.YtmdfbdfijnmhkaaGreatOpenB
namespace Go.Proofs.YtmdfbdfijnmhkaaGreat
set_option linter.unusedVariables false
set_option linter.unusedSimpArgs false
open Go.RowKit Hp
set_option maxRecDepth 100000
theorem open_u8 {H : Type} {enc : TypeId × Value → H} {W : World} {base fuel : Nat} {v : Value} {x : DataW H × List MemPlace} (hv : Value.okWide Tryz.prog W .any base 5 v)
    (h : DataW.trod enc Tryz.prog W 0 (fun _ => true) true fuel 5 v.cells.toList = some x) : ∃ b : UInt8, v = .int .u8 b.toNat := by
  obtain ⟨z, e, _, hw⟩ := DataW.trod_int Tryz.underlying5 h
  have hv' : ∃ z', v = .int .u8 z' := by
    unfold Value.okWide at hv
    rw [Tryz.underlying5] at hv
    simp only [Cell.okWide, Tryz.underlying5] at hv
    cases v <;> simp_all [Cell.ok]
  obtain ⟨z', rfl⟩ := hv'
  simp [Value.cells] at e
  subst e
  simp only [Lit.wf, Bool.and_eq_true, decide_eq_true_eq] at hw
  have h3 : IntKind.u8.min = 0 := rfl
  have h4 : IntKind.u8.max = 255 := rfl
  refine ⟨UInt8.ofNat z'.toNat, ?_⟩
  congr 1
  have hlt : z'.toNat < 256 := by omega
  rw [UInt8.toNat_ofNat', Nat.mod_eq_of_lt hlt]
  omega
section
open Go.ChangeShapes
variable {H : Type} {enc : TypeId × Value → H} {P : Program} {w : World} {base : Nat} {spare : Nat → Bool} {held : Bool}
end
end Go.Proofs.YtmdfbdfijnmhkaaGreat
