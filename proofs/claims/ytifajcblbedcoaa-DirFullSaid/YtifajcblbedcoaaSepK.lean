/- One operation of a drawn region, taken: with its side conditions as defaults. No program in sight. -/
import Derived.Test.YtifajcblbedcoaaSepY
import Derived.Deep.RegionHeld3
namespace Go.Proofs.Ytifajcblbedcoaa
set_option linter.unusedVariables false
set_option linter.unusedSimpArgs false
open Go.RowKit
namespace Hp
variable {P : Program} {md : Region.Mode} {ops : Array Oper} {Q : Exit → Act → World → Prop} {S : World → Prop}
/-- Wanted, and it yields what the walk's own step says. -/
theorem tk (i s : Nat) {op : Op} {ty : TypeId} {pos : String} {after : Array Edge} {g : Option (Nat × Bool)} {v : Value} {fuel : Nat} {listed : Array Bool} {a : Act} {w : World}
    (h : wpAnyH P md ops Q S fuel (listed.setIfInBounds i true) (a.put (some s) v) w)
    (hi : ops[i]? = some ⟨some s, op, ty, pos, after, g⟩ := by exact rfl)
    (hs : Region.noSelect ops = true := by kernel_rfl) (hf : Region.free md ops listed i = true := by kernel_rfl) (hr : (Region.ready md ops listed).contains i = true := by kernel_rfl)
    (hQ : ∀ c a w, Q (.panic c) (a.put (some s) v) w → Q (.panic c) a w := by exact (fun _ _ _ h => h))
    (hw : Region.wanted (Oper.mk (some s) op ty pos after g) (yielded ops a.tmps) = true := by rfl)
    (hy : ∀ w, S w → (execOp a.eval (Oper.mk (some s) op ty pos after g)).run P w = .ok (.value v) w := by intro w hSw; (try dsimp only at hSw); go_simp; try with_reducible rfl)
    (hS : S w := by assumption) : wpAnyH P md ops Q S (fuel + 1) listed a w :=
  wpAnyH_take hi hs hf hr hQ (Or.inl ⟨hw, hy⟩) hS h
end Hp
end Go.Proofs.Ytifajcblbedcoaa
