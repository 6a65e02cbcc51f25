import Derived.Test.YtmdfbdfijnmhkaaGreatSepF
namespace Go.Proofs.YtmdfbdfijnmhkaaGreat
set_option linter.unusedVariables false
set_option linter.unusedSimpArgs false
open Go.RowKit
namespace Hp
variable {P : Program}
theorem wl_buildS {ops : Array Oper} {rest : List Oper} {o : Oper} {a : Act} {w : World} {Q : Exit → Act → World → Prop} {T : TypeId} {parts : Array (Nat × Operand)} {cs : List Value}
    (hop : o.op = .build T parts) (hw : Region.wanted o (yielded ops a.tmps) = true) (hb : P.built T (parts.map fun p => (p.1, a.eval p.2)).toList = some cs.toArray)
    (h : wpList P ops Q rest (a.put o.dst (.agg cs.toArray)) w) : wpList P ops Q (o :: rest) a w := by
  refine wl_run hw ?_ h
  unfold execOp
  simp [hop, run_build w T _ _ hb]
end Hp
end Go.Proofs.YtmdfbdfijnmhkaaGreat
