import Derived.Test.YtifajcblbedcoaaGreatSepN
namespace Go.Proofs.YtifajcblbedcoaaGreat
set_option linter.unusedVariables false
set_option linter.unusedSimpArgs false
open Go.RowKit
namespace Hp
variable {P : Program}
theorem wl_buildX {ops : Array Oper} {rest : List Oper} {o : Oper} {a : Act} {w : World} {Q : Exit → Act → World → Prop} {T : TypeId} {parts : Array (Nat × Operand)} {cs : List Value} (ps : List (Nat × Value))
    (hop : o.op = .build T parts) (hw : Region.wanted o (yielded ops a.tmps) = true) (hp : parts.toList.map (fun p => (p.1, a.eval p.2)) = ps) (hb : P.built T ps = some cs.toArray)
    (h : wpList P ops Q rest (a.put o.dst (.agg cs.toArray)) w) : wpList P ops Q (o :: rest) a w :=
  wl_buildS hop hw (by rw [Array.toList_map, hp]; exact hb) h
end Hp
end Go.Proofs.YtifajcblbedcoaaGreat
