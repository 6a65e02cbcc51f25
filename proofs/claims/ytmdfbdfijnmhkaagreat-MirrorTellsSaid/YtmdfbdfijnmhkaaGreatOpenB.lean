import Derived.Test.YtmdfbdfijnmhkaaGreatOpen
namespace Go.Proofs.YtmdfbdfijnmhkaaGreat
set_option linter.unusedVariables false
set_option linter.unusedSimpArgs false
open Go.ChangeShapes Go.WideShapes Go.ChangeAt Go.RowKit Go.Deep Go.Lib Go.Joins Hp
set_option maxRecDepth 100000
theorem rd_ints {w : World} {b off len cap : Nat} (f : Nat → UInt8) (hl : len ≤ cap) (hc : cap ≤ maxLen) (h : ∀ i, i < len → w.cell? ⟨b, off + i, none⟩ = some (.int .u8 (f i).toNat)) :
    Rd w (.slice (some ⟨b, off, none⟩) len cap) 1 len (bytesV ((List.range len).map f)) := by
  refine Rd.mk hl hc (by simp) ?_
  intro k v hk
  rw [bytesV, List.getElem?_map, List.getElem?_map] at hk
  by_cases hi : k < len
  · rw [List.getElem?_range hi] at hk
    simp at hk
    subst hk
    exact h k hi
  · rw [List.getElem?_eq_none (by simpa using hi)] at hk
    simp at hk
theorem open_int {H : Type} {enc : TypeId × Value → H} {W : World} {base fuel : Nat} {v : Value} {x : DataW H × List MemPlace} (hv : Value.okWide Tryz.prog W .any base 3 v)
    (h : DataW.trod enc Tryz.prog W 0 (fun _ => true) true fuel 3 v.cells.toList = some x) : ∃ z : Int, v = .int .i64 z ∧ -9223372036854775808 ≤ z ∧ z ≤ 9223372036854775807 := by
  obtain ⟨z, e, _, hw⟩ := DataW.trod_int Tryz.underlying3 h
  have hv' : ∃ z', v = .int .i64 z' := by
    unfold Value.okWide at hv
    rw [Tryz.underlying3] at hv
    simp only [Cell.okWide, Tryz.underlying3] at hv
    cases v <;> simp_all [Cell.ok]
  obtain ⟨z', rfl⟩ := hv'
  simp [Value.cells] at e
  subst e
  simp only [Lit.wf, Bool.and_eq_true, decide_eq_true_eq] at hw
  have h3 : IntKind.i64.min = -9223372036854775808 := rfl
  have h4 : IntKind.i64.max = 9223372036854775807 := rfl
  exact ⟨_, rfl, by omega, by omega⟩
end Go.Proofs.YtmdfbdfijnmhkaaGreat
