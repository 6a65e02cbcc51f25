/- clear of a slice whose elements have many cells. -/
import Derived.Test.YtclleohpmgihaaaGreatR29
namespace Go.Proofs.YtclleohpmgihaaaGreat
set_option linter.unusedVariables false
set_option linter.unusedSimpArgs false
open Go.RowKit Hp
theorem zeroCells_one {z : Array Value} (h : z.toList.all (·.oneCell') = true) (n : Nat) : ∀ v ∈ (Builtin.zeroCells z n).toList, v.oneCell' = true := by
  have := all_zeroCells (p := (·.oneCell')) h n
  exact List.all_eq_true.1 this
theorem run_clear_blk {w0 w : World} {M : List Nat} {L1 L2 : List HA} {g off n c : Nat} {T e t ty : TypeId} {cs zs : List Value} (hst : St w0 M w (L1 ++ .blk g T cs :: L2)) (ht : Tryz.prog.underlying t = some (.slice e)) (hz : ∀ w, (zeroValue e).run Tryz.prog w = .ok (.agg zs.toArray) w)
    (h1 : zs.all (·.oneCell') = true) (hn : 0 < n) (hf : off + n * zs.length ≤ cs.length) :
    (Builtin.clear_ #[t] ty #[.slice (some ⟨g, off, none⟩) n c]).run Tryz.prog w = .ok (.tuple #[]) (w.setRow g (putAt cs off (Builtin.zeroCells zs.toArray n).toList).toArray) := by
  have hg : w.heap[g]? = some (.cells cs.toArray T (0, 0)) := hst.all (.blk g T cs) (by simp)
  have hsz : (Builtin.zeroCells zs.toArray n).toList.length = n * zs.length := by rw [Array.length_toList, size_zeroCells, List.size_toArray]
  have hs := run_storeCells_at Tryz.prog g off T (Builtin.zeroCells zs.toArray n).toList 0 cs.toArray w hg (by rw [hsz]; simpa using hf) (zeroCells_one (by simpa using h1) n)
  simp only [Nat.add_zero, List.append_assoc] at hs
  obtain ⟨m, rfl⟩ : ∃ m, n = m + 1 := ⟨n - 1, by omega⟩
  have hc : (Value.agg zs.toArray).cells = zs.toArray := rfl
  simp only [Builtin.clear_, run_underlying ht, Sem.run_bind, Result.andThen_ok, hz, hc, hs, List.getElem?_toArray, List.getElem?_cons_zero]
  rfl
end Go.Proofs.YtclleohpmgihaaaGreat
