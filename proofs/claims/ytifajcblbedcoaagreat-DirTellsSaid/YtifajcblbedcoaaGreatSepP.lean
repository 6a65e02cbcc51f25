import Derived.Test.YtifajcblbedcoaaGreatSepY
namespace Go.Proofs.YtifajcblbedcoaaGreat
set_option linter.unusedVariables false
set_option linter.unusedSimpArgs false
open Go.RowKit
namespace Hp
variable {P : Program}
section
variable {w0 w : World} {M : List Nat} {L1 L2 L : List HA} {p : Value → Bool} {v : Value} {T : TypeId} {sz n : Nat} {xs : List Value}
end
section
variable {ops : Array Oper} {rest : List Oper} {o : Oper} {a : Act} {w0 w : World} {M : List Nat} {Q : Exit → Act → World → Prop}
end
theorem Rd.rowP {w0 w : World} {M : List Nat} {L : List HA} {p : Value → Bool} {v : Value} {T : TypeId} {sz n : Nat} {xs : List Value} (hst : St w0 M w L) (hm : HA.rowP p v T sz n xs ∈ L) : Rd w v sz n xs := by
  have hh := (hst.ownsP hm).1
  obtain ⟨L1, L2, rfl⟩ := List.append_of_mem hm
  exact Rd.row (T := T) hst.unP (by simp)
end Hp
end Go.Proofs.YtifajcblbedcoaaGreat
