/- A node of rows of its own can be read. -/
import Derived.Test.YthjafocnfpphlaaT32
import Derived.Test.YthjafocnfpphlaaSepP
namespace Go.Proofs.Ythjafocnfpphlaa
open Go.RowKit Hp
theorem NV.isO.in {E : TypeId} {y x : NV} {R L : List HA} {w0 w : World} {M : List Nat} (h : y.isO E x R 4) (hst : St w0 M w L) (hR : ∀ z ∈ R, z ∈ L) (hS : x.Ln) : y.In w := by
  have main : ∀ j, j < 4 → (y.get j).In w := by
    intro j hj
    obtain ⟨q1, ao, n, c, q2, q3, q4⟩ := h j hj
    exact ⟨by rw [q1.2.2.2]; exact hS j, ao, n, c, q2, Rd.row hst (hR _ q3), q4⟩
  intro j
  match j with
  | 0 => exact main 0 (by omega)
  | 1 => exact main 1 (by omega)
  | 2 => exact main 2 (by omega)
  | _ + 3 => exact main 3 (by omega)
theorem loadedN (A : Addr) : loadVar 51 A = loadVarH 51 A := rfl
end Go.Proofs.Ythjafocnfpphlaa
