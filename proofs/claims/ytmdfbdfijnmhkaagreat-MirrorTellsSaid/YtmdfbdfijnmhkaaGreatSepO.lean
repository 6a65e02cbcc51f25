import Derived.Test.YtmdfbdfijnmhkaaGreatSepN
namespace Go.Proofs.YtmdfbdfijnmhkaaGreat
set_option linter.unusedVariables false
set_option linter.unusedSimpArgs false
open Go.RowKit
namespace Hp
variable {P : Program}
theorem ow_storeS {o : Oper} {a : Act} {w0 w : World} {M : List Nat} {K : Act → World → Prop} {Q : Exit → Act → World → Prop} {T T' : TypeId} {x y : Operand} {g off : Nat} {v : Value} {cs : List Value} (L1 : List HA) {L2 : List HA} (hst : St w0 M w (L1 ++ .blk g T' cs :: L2)) (hop : o.op = .store T x y)
    (hx : a.eval x = .pointer (some ⟨g, off, none⟩)) (hy : a.eval y = v) (hi : TyN P T 1) (hv : v.cells = #[v]) (h1 : v.oneCell' = true) (hf : off + 1 ≤ cs.length)
    (h : ∀ w', St w0 M w' (L1 ++ .blk g T' (putAt cs off [v]) :: L2) → K (a.put o.dst undef) w') : o.wp P a w K Q := by
  have hg : w.heap[g]? = some (.cells cs.toArray T' (0, 0)) := hst.all (.blk g T' cs) (by simp)
  have hs := storeVar_row (P := P) (T := T) (v := v) (off := off) hg (by rw [hv]; exact hi.out) (by rw [hv]; simpa using h1) (by rw [hv]; exact hf)
  rw [hv] at hs
  refine ow_skip ?_ (h _ (hst.setRow _))
  unfold execOp
  simp only [hop, hx, hy, Instr.storeAt, Instr.sureAddr, Sem.run_bind, Sem.run_pure, Result.andThen_ok, hs]
theorem wl_buildX {ops : Array Oper} {rest : List Oper} {o : Oper} {a : Act} {w : World} {Q : Exit → Act → World → Prop} {T : TypeId} {parts : Array (Nat × Operand)} {cs : List Value} (ps : List (Nat × Value))
    (hop : o.op = .build T parts) (hw : Region.wanted o (yielded ops a.tmps) = true) (hp : parts.toList.map (fun p => (p.1, a.eval p.2)) = ps) (hb : P.built T ps = some cs.toArray)
    (h : wpList P ops Q rest (a.put o.dst (.agg cs.toArray)) w) : wpList P ops Q (o :: rest) a w :=
  wl_buildS hop hw (by rw [Array.toList_map, hp]; exact hb) h
end Hp
end Go.Proofs.YtmdfbdfijnmhkaaGreat
