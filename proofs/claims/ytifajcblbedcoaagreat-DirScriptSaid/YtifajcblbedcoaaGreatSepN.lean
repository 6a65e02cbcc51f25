/- Arrays of structs by value: an element at an index. No program in sight. -/
import Derived.Test.YtifajcblbedcoaaGreatSepF
namespace Go.Proofs.YtifajcblbedcoaaGreat
set_option linter.unusedVariables false
set_option linter.unusedSimpArgs false
open Go.RowKit
namespace Hp
variable {P : Program}
theorem wl_ixA {ops : Array Oper} {rest : List Oper} {o : Oper} {a : Act} {w : World} {Q : Exit → Act → World → Prop} {T e : TypeId} {x y : Operand} {cs : List Value} {k n sz : Nat} (vs : List Value)
    (hop : o.op = .index T x y) (hw : Region.wanted o (yielded ops a.tmps) = true) (hx : a.eval x = .agg cs.toArray) (hy : a.eval y = .int .i64 k) (hT : P.underlying T = some (.array n e)) (he : tyA P e sz = true) (hk : k < n) (hv : (cs.drop (k * sz)).take sz = vs)
    (h : wpList P ops Q rest (a.put o.dst (.agg vs.toArray)) w) : wpList P ops Q (o :: rest) a w := by
  obtain ⟨d, hd, hr, hi⟩ := tyA_spec he
  have hagg : (isAgg e).run P w = .ok true w := by
    unfold isAgg
    rw [Sem.run_bind, run_underlying hd w]
    cases d <;> simp_all [TypeDesc.isRow]
  have hsz : (sizeOf e).run P w = .ok sz w := by
    cases hq : P.info? e with
    | none => simp [hq] at hi
    | some i => simp [hq] at hi; simp [sizeOf, typeInfo, hq, hi]
  have hk2 : (0 : Int) ≤ (k : Int) ∧ (k : Int) < (n : Int) := ⟨by omega, by omega⟩
  refine wl_run hw ?_ h
  unfold execOp
  simp only [hop, hx, hy, Instr.index, asIntOf, Sem.run_bind, Sem.run_pure, Result.andThen_ok, run_underlying hT, Sem.run_ite, hk2, if_true, and_self, hsz, part, hagg, Int.toNat_natCast]
  subst hv
  have : cs.toArray.extract (k * sz) (k * sz + sz) = ((cs.drop (k * sz)).take sz).toArray := by
    apply Array.ext'
    simp [List.extract_eq_take_drop]
  simp [this]
theorem wl_buildS {ops : Array Oper} {rest : List Oper} {o : Oper} {a : Act} {w : World} {Q : Exit → Act → World → Prop} {T : TypeId} {parts : Array (Nat × Operand)} {cs : List Value}
    (hop : o.op = .build T parts) (hw : Region.wanted o (yielded ops a.tmps) = true) (hb : P.built T (parts.map fun p => (p.1, a.eval p.2)).toList = some cs.toArray)
    (h : wpList P ops Q rest (a.put o.dst (.agg cs.toArray)) w) : wpList P ops Q (o :: rest) a w := by
  refine wl_run hw ?_ h
  unfold execOp
  simp [hop, run_build w T _ _ hb]
end Hp
end Go.Proofs.YtifajcblbedcoaaGreat
