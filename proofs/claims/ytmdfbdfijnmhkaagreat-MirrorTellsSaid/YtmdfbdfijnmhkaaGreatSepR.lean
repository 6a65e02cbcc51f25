import Derived.Test.YtmdfbdfijnmhkaaGreatSepX
import Derived.Laws.MakeOwn
namespace Go.Proofs.YtmdfbdfijnmhkaaGreat
set_option linter.unusedVariables false
set_option linter.unusedSimpArgs false
open Go.RowKit
namespace Hp
variable {P : Program}
theorem results_cellL {fn : Func} {p : Tmp} {ty : TypeId} {tmps : Array Value} {w : World} {A : Addr} {v : Value} (h : fn.results = #[.cell p ty]) (hp : tmps.getD p undef = .pointer (some A)) (hl : Loads P w ty A v) :
    (results fn tmps).run P w = .ok v w := by
  have hl' : (loadVar ty A).run P w = .ok v w := hl
  have hp' : tmps[p]?.getD undef = .pointer (some A) := by simpa using hp
  simp [results, h, hp', asAddr, hl']
theorem results_cell2L {fn : Func} {p q : Tmp} {ty ty' : TypeId} {tmps : Array Value} {w : World} {A B : Addr} {v u : Value} (h : fn.results = #[.cell p ty, .cell q ty']) (hp : tmps.getD p undef = .pointer (some A)) (hq : tmps.getD q undef = .pointer (some B))
    (hl : Loads P w ty A v) (hk : Loads P w ty' B u) : (results fn tmps).run P w = .ok (.tuple #[v, u]) w := by
  have hl' : (loadVar ty A).run P w = .ok v w := hl
  have hk' : (loadVar ty' B).run P w = .ok u w := hk
  have hp' : tmps[p]?.getD undef = .pointer (some A) := by simpa using hp
  have hq' : tmps[q]?.getD undef = .pointer (some B) := by simpa using hq
  simp [results, h, hp', hq', asAddr, hl', hk', Sem.run_bind]
theorem wl_storeA {ops : Array Oper} {rest : List Oper} {o : Oper} {a : Act} {w0 w : World} {M : List Nat} {Q : Exit → Act → World → Prop} {T T' : TypeId} {x y : Operand} {g n : Nat} {vs cs : List Value} (L1 : List HA) {L2 : List HA} (hst : St w0 M w (L1 ++ .blk g T' cs :: L2)) (hop : o.op = .store T x y)
    (hw : Region.wanted o (yielded ops a.tmps) = true) (hx : a.eval x = .pointer (some ⟨g, 0, none⟩)) (hy : a.eval y = .agg vs.toArray) [hi : TyN P T n] (hn : vs.length = n)
    (h1 : vs.all (·.oneCell') = true) (hf : cs.length = n)
    (h : ∀ w', St w0 M w' (L1 ++ .blk g T' vs :: L2) → wpList P ops Q rest (a.put o.dst undef) w') : wpList P ops Q (o :: rest) a w := by
  refine wl_store L1 hst hop hw hx hy (n := n) (by simpa [Value.cells] using hn) (by simpa [Value.cells] using h1) (by simp [Value.cells, hn, hf]) fun w' hst' => h w' ?_
  have e : putAt cs 0 (Value.agg vs.toArray).cells.toList = vs := by
    simp [putAt, Value.cells, hn, ← hf]
  rw [e] at hst'
  exact hst'
theorem ow_skip {o : Oper} {a : Act} {w w' : World} {K : Act → World → Prop} {Q : Exit → Act → World → Prop} (hr : (execOp a.eval o).run P w = .ok .skip w') (h : K (a.put o.dst undef) w') : o.wp P a w K Q := by
  unfold Oper.wp
  rw [hr]
  exact h
theorem ow_storeA {o : Oper} {a : Act} {w0 w : World} {M : List Nat} {K : Act → World → Prop} {Q : Exit → Act → World → Prop} {T T' : TypeId} {x y : Operand} {g n : Nat} {vs cs : List Value} (L1 : List HA) {L2 : List HA} (hst : St w0 M w (L1 ++ .blk g T' cs :: L2)) (hop : o.op = .store T x y)
    (hx : a.eval x = .pointer (some ⟨g, 0, none⟩)) (hy : a.eval y = .agg vs.toArray) (hi : TyN P T n) (hn : vs.length = n) (h1 : vs.all (·.oneCell') = true) (hf : cs.length = n)
    (h : ∀ w', St w0 M w' (L1 ++ .blk g T' vs :: L2) → K (a.put o.dst undef) w') : o.wp P a w K Q := by
  have hg : w.heap[g]? = some (.cells cs.toArray T' (0, 0)) := hst.all (.blk g T' cs) (by simp)
  have e : putAt cs 0 (Value.agg vs.toArray).cells.toList = vs := by
    simp [putAt, Value.cells, hn, ← hf]
  have hs : (storeVar T ⟨g, 0, none⟩ (.agg vs.toArray)).run P w = .ok () (w.setRow g vs.toArray) := by
    have := storeVar_row (P := P) (T := T) (v := .agg vs.toArray) (off := 0) hg (by simpa [Value.cells, hn] using hi.out) (by simpa [Value.cells] using h1) (by simp [Value.cells, hn, hf])
    rw [e] at this
    exact this
  refine ow_skip ?_ (h _ (hst.setRow _))
  unfold execOp
  simp only [hop, hx, hy, Instr.storeAt, Instr.sureAddr, Sem.run_bind, Sem.run_pure, Result.andThen_ok, hs]
def storeVarH (T : TypeId) (A : Addr) (v : Value) : Sem Unit := storeVar T A v
theorem madeCells_one (z : Value) (n : Nat) : madeCells #[z] n = (List.replicate n z).toArray := by
  apply Array.ext
  · simp [madeCells]
  · intro i h1 h2
    simp [madeCells, Nat.mod_one]
theorem wl_make {ops : Array Oper} {rest : List Oper} {o : Oper} {a : Act} {w0 w : World} {M : List Nat} {L : List HA} {Q : Exit → Act → World → Prop} {T e : TypeId} {x y : Operand} {bytes : Nat} {z : Value} {u v : Int} (l c : Nat) (hst : St w0 M w L) (hop : o.op = .makeSlice T x y)
    (hw : Region.wanted o (yielded ops a.tmps) = true) (hx : a.eval x = .int .i64 u) (hy : a.eval y = .int .i64 v) (ht : TySl P T e) (he : TyE P e 1 bytes) (hz : TyZ P e [z]) (hu : u = (l : Int)) (hv : v = (c : Int)) (hlc : l ≤ c) (hb : c * bytes ≤ 281474976710656 ∧ c ≤ 9223372036854775807)
    (h : ∀ g w', St w0 M w' (.blk g e (List.replicate c z) :: L) → wpList P ops Q rest (a.put o.dst (.slice (some ⟨g, 0, none⟩) l c)) w') : wpList P ops Q (o :: rest) a w := by
  subst hu hv
  obtain ⟨i, zz, hi, hzz, hs, hbs, hzs⟩ := tyE_spec he.out
  have hzl : zz.cells = #[z] := by
    have := hz.out
    unfold tyZ at this
    simp [hi, hzz] at this
    exact Array.toList_inj.1 (by simpa using this)
  have hm := run_make (P := P) w T e i zz ht.out hi hzz .i64 .i64 l c (by omega) (by omega) (by rw [hbs, ← Int.natCast_mul, Nat.mul_comm]; have h3 := hb.1; revert h3; generalize c * bytes = q; intro h3; omega) (by have := hb.2; omega)
  rw [hzl, hs, Nat.mul_one, madeCells_one] at hm
  simp only [Int.toNat_natCast] at hm
  refine wl_run hw ?_ (h _ _ (hst.alloc e (List.replicate c z)))
  unfold execOp
  simp only [hop, hx, hy, Sem.run_bind, hm, Sem.run_pure, Result.andThen_ok]
end Hp
end Go.Proofs.YtmdfbdfijnmhkaaGreat
