import Derived.Test.YtmdfbdfijnmhkaaSepX
namespace Go.Proofs.Ytmdfbdfijnmhkaa
set_option linter.unusedVariables false
set_option linter.unusedSimpArgs false
open Go.RowKit
namespace Hp
variable {P : Program}
def intsV (q : IntKind) (l : List Int) : List Value := l.map (.int q)
section
variable {ops : Array Oper} {rest : List Oper} {o : Oper} {a : Act} {w : World} {Q : Exit → Act → World → Prop}
theorem wl_neq_bytes {T T' n e : Nat} {x y : Operand} {l k : List UInt8} (hop : o.op = .binOp .neq T x y T') (hw : Region.wanted o (yielded ops a.tmps) = true) (hx : a.eval x = .agg (bytesV l).toArray) (hy : a.eval y = .agg (bytesV k).toArray)
    [h : TyArr P T n e] (hlk : l.length = n ∧ k.length = n) (hh : wpList P ops Q rest (a.put o.dst (.bool (!(l == k)))) w) : wpList P ops Q (o :: rest) a w := by
  refine wl_run hw ?_ hh
  unfold execOp
  simp only [hop, hx, hy, Sem.run_bind, run_eqGuard_agg h.out.2.2.2, Result.andThen_ok, run_neq_bytes h l k hlk.1 hlk.2, Sem.run_pure]
end
end Hp
end Go.Proofs.Ytmdfbdfijnmhkaa
