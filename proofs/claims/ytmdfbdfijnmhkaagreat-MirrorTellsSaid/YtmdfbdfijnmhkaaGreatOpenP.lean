import Derived.Test.YtmdfbdfijnmhkaaGreatOpen
namespace Go.Proofs.YtmdfbdfijnmhkaaGreat
set_option linter.unusedVariables false
set_option linter.unusedSimpArgs false
open Go.ChangeShapes Go.WideShapes Go.ChangeAt Go.RowKit Go.Deep Go.Lib Go.Joins Hp
set_option maxRecDepth 100000
theorem cellsA : Tryz.prog.cellsOf 30 = 1 := by kernel_rfl
theorem cellsE : Tryz.prog.cellsOf 83 = 2 := by kernel_rfl
theorem cellsI : Tryz.prog.cellsOf 3 = 1 := by kernel_rfl
theorem cellsB : Tryz.prog.cellsOf 5 = 1 := by kernel_rfl
theorem cellsD : Tryz.prog.cellsOf 32 = 32 := by kernel_rfl
theorem cellsP : Tryz.prog.cellsOf 34 = 35 := by kernel_rfl
theorem open_id {H : Type} {enc : TypeId × Value → H} {W : World} {fuel : Nat} {T : List Value} {x : DataW H × List MemPlace} (hT : T.length = 32)
    (h : DataW.trod enc Tryz.prog W 0 (fun _ => true) true fuel 32 T = some x) : ∃ S, T = bytesV S ∧ L32 S := by
  obtain ⟨xs, m, _, _, _, hxs, hx⟩ := DataW.trod_array Tryz.underlying32 h
  obtain ⟨S, hS, hl⟩ := bytes_of_cells T (by
    intro v hv
    obtain ⟨i, hi, rfl⟩ := List.getElem_of_mem hv
    have h1 := hx i (by omega)
    rw [cellsB, Nat.mul_one, List.getElem?_eq_getElem (by omega)] at h1
    obtain ⟨k, e, _, hw⟩ := DataW.trod_int Tryz.underlying5 h1
    have e2 : T[i] = .int .u8 k := by
      have := congrArg (·[0]?) e
      simpa [List.getElem?_take, List.getElem?_drop, hi] using this
    refine ⟨k, e2, ?_⟩
    simp only [Lit.wf, Bool.and_eq_true, decide_eq_true_eq] at hw
    have h3 : IntKind.u8.min = 0 := rfl
    have h4 : IntKind.u8.max = 255 := rfl
    omega)
  exact ⟨S, hS, by unfold L32; omega⟩
end Go.Proofs.YtmdfbdfijnmhkaaGreat
