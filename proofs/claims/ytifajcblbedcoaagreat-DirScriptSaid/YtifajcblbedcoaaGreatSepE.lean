/- Arrays of numbers, compared. No program in sight. -/
import Derived.Test.YtifajcblbedcoaaGreatSepX
namespace Go.Proofs.YtifajcblbedcoaaGreat
set_option linter.unusedVariables false
set_option linter.unusedSimpArgs false
open Go.RowKit
namespace Hp
variable {P : Program}
def intsV (q : IntKind) (l : List Int) : List Value := l.map (.int q)
theorem eqItems_ints {w : World} {e : TypeId} {q q' : IntKind} (he : P.underlying e = some (.int q')) (d : Nat) (l k : List Int) : ∀ (m s : Nat), l.length = s + m → k.length = s + m →
    (Op.eqItems (d + 1) e 1 (intsV q l).toArray (intsV q k).toArray (List.range' s m)).run P w = .ok (l.drop s == k.drop s) w
  | 0, s, h1, h2 => by
    rw [List.drop_of_length_le (by omega), List.drop_of_length_le (by omega)]
    simp [Op.eqItems]
  | m + 1, s, h1, h2 => by
    have hagg : (isAgg e).run P w = .ok false w := by
      unfold isAgg
      rw [Sem.run_bind, run_underlying he w]
      simp
    have hp : ∀ u : List Int, s < u.length → (part e (intsV q u).toArray (s * 1)).run P w = .ok (.int q (u.getD s 0)) w := by
      intro u hq
      unfold part
      rw [Sem.run_bind, hagg]
      have : (intsV q u).toArray[s * 1]? = some (.int q (u.getD s 0)) := by simp [intsV, List.getD, hq]
      simp only [Result.andThen_ok, Bool.false_eq_true, if_false, this]
      rfl
    have ih := eqItems_ints (w := w) (q := q) he d l k m (s + 1) (by omega) (by omega)
    have hl : l.drop s = l.getD s 0 :: l.drop (s + 1) := by rw [List.drop_eq_getElem_cons (by omega)]; simp [List.getD, show s < l.length by omega]
    have hk : k.drop s = k.getD s 0 :: k.drop (s + 1) := by rw [List.drop_eq_getElem_cons (by omega)]; simp [List.getD, show s < k.length by omega]
    rw [hl, hk]
    simp only [List.range'_succ, Op.eqItems, Sem.run_bind, hp l (by omega), hp k (by omega), Result.andThen_ok, run_equalIn_int w d e q q' _ _ he]
    rw [List.cons_beq_cons]
    cases hb : (l.getD s 0 == k.getD s 0)
    · simp
    · simp [ih]
/-- An array of numbers. -/
class TyArrI (P : Program) (T : TypeId) (n : outParam Nat) (q : outParam IntKind) (e : outParam TypeId) : Prop where
  out : P.underlying T = some (.array n e) ∧ P.underlying e = some (.int q) ∧ (P.info? e).map (·.size) = some 1 ∧ P.eqGuardType P.depth T = false
theorem run_eql_ints {w : World} {T : TypeId} {n e : Nat} {q q' : IntKind} (h : TyArrI P T n q' e) (l k : List Int) (hl : l.length = n) (hk : k.length = n) :
    (binOp .eql T (.agg (intsV q l).toArray) (.agg (intsV q k).toArray)).run P w = .ok (.bool (l == k)) w := by
  obtain ⟨h1, h2, h3, _⟩ := h.out
  cases hi : P.info? e with
  | none => simp [hi] at h3
  | some i =>
    have hc : P.cellsOf e = 1 := by unfold Program.cellsOf; rw [hi] at h3 ⊢; simpa using h3
    rw [run_eql_struct]
    rw [run_equalIn_array w 9999 _ _ h1 hi, hc, List.range_eq_range', eqItems_ints h2 9998 l k n 0 (by omega) (by omega)]
    rfl
theorem run_neq_ints {w : World} {T : TypeId} {n e : Nat} {q q' : IntKind} (h : TyArrI P T n q' e) (l k : List Int) (hl : l.length = n) (hk : k.length = n) :
    (binOp .neq T (.agg (intsV q l).toArray) (.agg (intsV q k).toArray)).run P w = .ok (.bool (!(l == k))) w := by
  obtain ⟨h1, h2, h3, _⟩ := h.out
  cases hi : P.info? e with
  | none => simp [hi] at h3
  | some i =>
    have hc : P.cellsOf e = 1 := by unfold Program.cellsOf; rw [hi] at h3 ⊢; simpa using h3
    rw [run_neq_struct]
    rw [run_equalIn_array w 9999 _ _ h1 hi, hc, List.range_eq_range', eqItems_ints h2 9998 l k n 0 (by omega) (by omega)]
    rfl
section
variable {ops : Array Oper} {rest : List Oper} {o : Oper} {a : Act} {w : World} {Q : Exit → Act → World → Prop}
theorem wl_eql_ints {T T' n e : Nat} {q q' : IntKind} {x y : Operand} (l k : List Int) (hop : o.op = .binOp .eql T x y T') (hw : Region.wanted o (yielded ops a.tmps) = true) (hx : a.eval x = .agg (intsV q l).toArray) (hy : a.eval y = .agg (intsV q k).toArray)
    [h : TyArrI P T n q' e] (hlk : l.length = n ∧ k.length = n) (hh : wpList P ops Q rest (a.put o.dst (.bool (l == k))) w) : wpList P ops Q (o :: rest) a w := by
  refine wl_run hw ?_ hh
  unfold execOp
  simp only [hop, hx, hy, Sem.run_bind, run_eqGuard_agg h.out.2.2.2, Result.andThen_ok, run_eql_ints h l k hlk.1 hlk.2, Sem.run_pure]
theorem wl_neq_ints {T T' n e : Nat} {q q' : IntKind} {x y : Operand} (l k : List Int) (hop : o.op = .binOp .neq T x y T') (hw : Region.wanted o (yielded ops a.tmps) = true) (hx : a.eval x = .agg (intsV q l).toArray) (hy : a.eval y = .agg (intsV q k).toArray)
    [h : TyArrI P T n q' e] (hlk : l.length = n ∧ k.length = n) (hh : wpList P ops Q rest (a.put o.dst (.bool (!(l == k)))) w) : wpList P ops Q (o :: rest) a w := by
  refine wl_run hw ?_ hh
  unfold execOp
  simp only [hop, hx, hy, Sem.run_bind, run_eqGuard_agg h.out.2.2.2, Result.andThen_ok, run_neq_ints h l k hlk.1 hlk.2, Sem.run_pure]
theorem wl_neq_bytes {T T' n e : Nat} {x y : Operand} {l k : List UInt8} (hop : o.op = .binOp .neq T x y T') (hw : Region.wanted o (yielded ops a.tmps) = true) (hx : a.eval x = .agg (bytesV l).toArray) (hy : a.eval y = .agg (bytesV k).toArray)
    [h : TyArr P T n e] (hlk : l.length = n ∧ k.length = n) (hh : wpList P ops Q rest (a.put o.dst (.bool (!(l == k)))) w) : wpList P ops Q (o :: rest) a w := by
  refine wl_run hw ?_ hh
  unfold execOp
  simp only [hop, hx, hy, Sem.run_bind, run_eqGuard_agg h.out.2.2.2, Result.andThen_ok, run_neq_bytes h l k hlk.1 hlk.2, Sem.run_pure]
end
end Hp
end Go.Proofs.YtifajcblbedcoaaGreat
