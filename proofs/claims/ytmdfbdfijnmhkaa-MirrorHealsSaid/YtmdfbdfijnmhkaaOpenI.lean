import Derived.Test.YtmdfbdfijnmhkaaOpen
import Derived.Test.YtmdfbdfijnmhkaaSepE
namespace Go.Proofs.Ytmdfbdfijnmhkaa
set_option linter.unusedVariables false
set_option linter.unusedSimpArgs false
set_option maxRecDepth 100000
open Go.ChangeShapes Go.WideShapes Go.ChangeAt Go.RowKit Go.Deep Go.Lib Go.Joins Hp
theorem ints_of_cells {q : IntKind} {p : Int → Prop} : ∀ (L : List Value), (∀ v ∈ L, ∃ k : Int, v = .int q k ∧ p k) → ∃ S : List Int, L = intsV q S ∧ S.length = L.length ∧ ∀ z ∈ S, p z
  | [], _ => ⟨[], rfl, rfl, by simp⟩
  | v :: L, h => by
    obtain ⟨S, hS, hl, hp⟩ := ints_of_cells L fun x hx => h x (List.mem_cons_of_mem _ hx)
    obtain ⟨k, rfl, h0⟩ := h v (List.mem_cons_self)
    refine ⟨k :: S, by rw [hS]; rfl, by simp [hl], ?_⟩
    intro z hz
    rcases List.mem_cons.1 hz with rfl | hz
    · exact h0
    · exact hp z hz
theorem open_arr {H : Type} {enc : TypeId × Value → H} {W : World} {base fuel : Nat} {v : Value} {x : DataW H × List MemPlace} {T n e : Nat} {q : IntKind} (hu : Try.prog.underlying T = some (.array n e)) (he : Try.prog.underlying e = some (.int q))
    (hc : Try.prog.cellsOf e = 1) (hcT : Try.prog.cellsOf T = n) (hv : Value.okWide Try.prog W .any base T v)
    (h : DataW.trod enc Try.prog W 0 (fun _ => true) true fuel T v.cells.toList = some x) : ∃ zs : List Int, v = .agg (intsV q zs).toArray ∧ zs.length = n ∧ ∀ z ∈ zs, q.min ≤ z ∧ z ≤ q.max := by
  unfold Value.okWide at hv
  rw [hu] at hv
  obtain ⟨cs, rfl, hsz, _⟩ := hv
  obtain ⟨L, rfl⟩ : ∃ L : List Value, cs = L.toArray := ⟨cs.toList, rfl⟩
  rw [hcT] at hsz
  have hT : L.length = n := by simpa using hsz
  have h' : DataW.trod enc Try.prog W 0 (fun _ => true) true fuel T L = some x := h
  obtain ⟨xs, m, _, _, _, hxs, hx⟩ := DataW.trod_array hu h'
  obtain ⟨S, hS, hl, hp⟩ := ints_of_cells (q := q) (p := fun z => q.min ≤ z ∧ z ≤ q.max) L (by
    intro v hv
    obtain ⟨i, hi, rfl⟩ := List.getElem_of_mem hv
    have h1 := hx i (by omega)
    rw [hc, Nat.mul_one, List.getElem?_eq_getElem (by omega)] at h1
    obtain ⟨k, e, _, hw⟩ := DataW.trod_int he h1
    have e2 : L[i] = .int q k := by
      have := congrArg (·[0]?) e
      simpa [List.getElem?_take, List.getElem?_drop, hi] using this
    refine ⟨k, e2, ?_⟩
    simp only [Lit.wf, Bool.and_eq_true, decide_eq_true_eq] at hw
    exact hw)
  exact ⟨S, by rw [hS], by omega, hp⟩
end Go.Proofs.Ytmdfbdfijnmhkaa
