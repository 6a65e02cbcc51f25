import Derived.Test.YtmdfbdfijnmhkaaGreatSep
namespace Go.Proofs.YtmdfbdfijnmhkaaGreat
set_option linter.unusedVariables false
set_option linter.unusedSimpArgs false
open Go.RowKit
namespace Hp
def tyS (P : Program) (T : TypeId) : Bool := match P.underlying T with
  | some d => !d.isRow && ((P.info? T).map (·.size) == some 1)
  | none => false
def tyA (P : Program) (T : TypeId) (n : Nat) : Bool := match P.underlying T with
  | some d => d.isRow && ((P.info? T).map (·.size) == some n)
  | none => false
def tyZ (P : Program) (T : TypeId) : Option (List Value) := ((P.info? T).bind (·.zero)).map (·.cells.toList)
def tyE (P : Program) (T : TypeId) (sz bytes : Nat) : Bool := match P.info? T with
  | some i => i.size == sz && i.bytes == bytes && (match i.zero with | some z => z.cells.size == sz | none => false)
  | none => false
class TyS (P : Program) (T : TypeId) : Prop where
  out : tyS P T = true
class TyA (P : Program) (T : TypeId) (n : outParam Nat) : Prop where
  out : tyA P T n = true
class TyZ (P : Program) (T : TypeId) (cs : outParam (List Value)) : Prop where
  out : tyZ P T = some cs
class TyB (P : Program) (T : TypeId) (cs : outParam (List Value)) : Prop where
  out : P.built T [] = some cs.toArray
class TyE (P : Program) (T : TypeId) (sz bytes : outParam Nat) : Prop where
  out : tyE P T sz bytes = true
class TySl (P : Program) (T : TypeId) (e : outParam TypeId) : Prop where
  out : P.underlying T = some (.slice e)
class TyN (P : Program) (T : TypeId) (n : outParam Nat) : Prop where
  out : (P.info? T).map (·.size) = some n
class TyStr (P : Program) (T : TypeId) : Prop where
  out : P.underlying T = some .string
class TyI (P : Program) (T : TypeId) (k : outParam IntKind) : Prop where
  out : P.underlying T = some (.int k)
section
variable {P : Program}
theorem tyS_spec {T : TypeId} (h : tyS P T = true) : (∃ d, P.underlying T = some d ∧ d.isRow = false) ∧ (P.info? T).map (·.size) = some 1 := by
  unfold tyS at h
  split at h
  · rename_i d hd
    simp at h
    exact ⟨⟨d, hd, h.1⟩, by simpa using h.2⟩
  · simp at h
theorem tyA_spec {T : TypeId} {n : Nat} (h : tyA P T n = true) : ∃ d, P.underlying T = some d ∧ d.isRow = true ∧ (P.info? T).map (·.size) = some n := by
  unfold tyA at h
  split at h
  · rename_i d hd
    simp at h
    exact ⟨d, hd, h.1, by simpa using h.2⟩
  · simp at h
theorem tyE_spec {T : TypeId} {sz bytes : Nat} (h : tyE P T sz bytes = true) : ∃ i z, P.info? T = some i ∧ i.zero = some z ∧ i.size = sz ∧ i.bytes = bytes ∧ z.cells.size = sz := by
  unfold tyE at h
  split at h
  · rename_i i hi
    simp at h
    obtain ⟨⟨h1, h2⟩, h3⟩ := h
    split at h3
    · rename_i z hz
      exact ⟨i, z, hi, hz, h1, h2, by simpa using h3⟩
    · simp at h3
  · simp at h
section
variable {ops : Array Oper} {rest : List Oper} {o : Oper} {a : Act} {w w' : World} {Q : Exit → Act → World → Prop}
theorem wl_run {v : Value} (hw : Region.wanted o (yielded ops a.tmps) = true) (hr : (execOp a.eval o).run P w = .ok (.value v) w')
    (h : wpList P ops Q rest (a.put o.dst v) w') : wpList P ops Q (o :: rest) a w := by
  unfold wpList
  rw [if_pos hw]
  refine .inl ?_
  unfold Oper.wp
  rw [hr]; exact h
theorem wl_skip (hw : Region.wanted o (yielded ops a.tmps) = true) (hr : (execOp a.eval o).run P w = .ok .skip w')
    (h : wpList P ops Q rest (a.put o.dst undef) w') : wpList P ops Q (o :: rest) a w := by
  unfold wpList
  rw [if_pos hw]
  refine .inl ?_
  unfold Oper.wp
  rw [hr]; exact h
def Loads (P : Program) (w : World) (T : TypeId) (A : Addr) (v : Value) : Prop := (loadVar T A).run P w = .ok v w
theorem Loads.cell {T : TypeId} {A : Addr} {v : Value} (ht : tyS P T = true) (h : w.cell? A = some v) : Loads P w T A v := by
  obtain ⟨⟨d, hd, hr⟩, _⟩ := tyS_spec ht
  have hagg : (isAgg T).run P w = .ok false w := by
    unfold isAgg
    rw [Sem.run_bind, run_underlying hd w]
    cases d <;> simp_all [TypeDesc.isRow]
  unfold Loads loadVar
  rw [Sem.run_bind, hagg]
  simp [Result.andThen, h]
theorem Loads.range {T : TypeId} {b off : Nat} {cs : List Value} (ht : tyA P T cs.length = true) (h : w.rangeAt b off cs) : Loads P w T ⟨b, off, none⟩ (.agg cs.toArray) := by
  obtain ⟨d, hd, hr, hi⟩ := tyA_spec ht
  exact run_loadVar_mid w b off T cs d h hd hr hi
variable {w0 : World} {M : List Nat} {L : List HA}
theorem Loads.blk {T T' : TypeId} {g off : Nat} {v : Value} {cs : List Value} (hst : St w0 M w L) (ht : tyS P T = true) (hm : HA.blk g T' cs ∈ L) (hv : cs[off]? = some v) : Loads P w T ⟨g, off, none⟩ v :=
  .cell ht (hst.cell hm hv)
theorem St.range {T' : TypeId} {g off : Nat} {cs : List Value} (hst : St w0 M w L) (hm : HA.blk g T' cs ∈ L) : w.rangeAt g off (cs.drop off) := by
  intro j v hv
  exact hst.cell hm (by simpa using hv)
theorem rangeAt_take {b off n : Nat} {cs : List Value} (h : w.rangeAt b off cs) : w.rangeAt b off (cs.take n) := by
  intro j v hv
  refine h j v ?_
  rw [List.getElem?_take] at hv
  split at hv
  · exact hv
  · simp at hv
theorem Loads.at {T T' : TypeId} {g off : Nat} {v : Value} {cs : List Value} (L1 : List HA) {L2 : List HA} (hst : St w0 M w (L1 ++ .blk g T' cs :: L2)) [ht : TyS P T] (hv : cs[off]? = some v) : Loads P w T ⟨g, off, none⟩ v :=
  .blk (T' := T') hst ht.out (by simp) hv
theorem Loads.blkA {T T' : TypeId} {g off : Nat} {vs cs : List Value} (hst : St w0 M w L) (ht : tyA P T vs.length = true) (hm : HA.blk g T' cs ∈ L) (hv : (cs.drop off).take vs.length = vs) : Loads P w T ⟨g, off, none⟩ (.agg vs.toArray) :=
  .range ht (by have := rangeAt_take (n := vs.length) (hst.range (off := off) hm); rwa [hv] at this)
theorem Loads.atA {T T' : TypeId} {g off n : Nat} {cs : List Value} (vs : List Value) (L1 : List HA) {L2 : List HA} (hst : St w0 M w (L1 ++ .blk g T' cs :: L2)) [ht : TyA P T n] (hn : vs.length = n) (hv : (cs.drop off).take vs.length = vs) : Loads P w T ⟨g, off, none⟩ (.agg vs.toArray) :=
  .blkA (T' := T') hst (by rw [hn]; exact ht.out) (by simp) hv
theorem Loads.old {T : TypeId} {A : Addr} {v : Value} (hst : St w0 [] w L) [ht : TyS P T] (h : w0.cell? A = some v) : Loads P w T A v := .cell ht.out (hst.old_cell h (by simp))
theorem Loads.oldA {T : TypeId} {b off n : Nat} {cs : List Value} (hst : St w0 [] w L) [ht : TyA P T n] (hn : cs.length = n) (h : w0.rangeAt b off cs) : Loads P w T ⟨b, off, none⟩ (.agg cs.toArray) :=
  .range (by rw [hn]; exact ht.out) fun j v hv => hst.old_cell (h j v hv) (by simp)
theorem wl_load {T : TypeId} {x : Operand} {A : Addr} {v : Value} (hop : o.op = .load T x) (hw : Region.wanted o (yielded ops a.tmps) = true) (hx : a.eval x = .pointer (some A))
    (hl : Loads P w T A v) (h : wpList P ops Q rest (a.put o.dst v) w) : wpList P ops Q (o :: rest) a w := by
  refine wl_run hw ?_ h
  unfold execOp
  have hl' : (loadVar T A).run P w = .ok v w := hl
  simp only [hop, hx, Instr.loadAt, Instr.sureAddr, Sem.run_bind, Sem.run_pure, Result.andThen_ok, hl']
theorem wl_loadE {T : TypeId} {x : Operand} {A : Addr} (hop : o.op = .load T x) (hw : Region.wanted o (yielded ops a.tmps) = true) (hx : a.eval x = .pointer (some A))
    (h : ∃ v, Loads P w T A v ∧ wpList P ops Q rest (a.put o.dst v) w) : wpList P ops Q (o :: rest) a w :=
  let ⟨_, h1, h2⟩ := h
  wl_load hop hw hx h1 h2
def putAt (l : List Value) (off : Nat) (vs : List Value) : List Value := l.take off ++ (vs ++ l.drop (off + vs.length))
theorem storeVar_row {T T' : TypeId} {g off : Nat} {v : Value} {cs : List Value} (hg : w.heap[g]? = some (.cells cs.toArray T' (0, 0))) (hi : (P.info? T).map (·.size) = some v.cells.size)
    (h1 : v.cells.toList.all (·.oneCell') = true) (hf : off + v.cells.size ≤ cs.length) : (storeVar T ⟨g, off, none⟩ v).run P w = .ok () (w.setRow g (putAt cs off v.cells.toList).toArray) := by
  have := run_storeCells_at P g off T' v.cells.toList 0 cs.toArray w hg (by simpa using hf) (fun x hx => (List.all_eq_true.1 h1) x hx)
  cases hq : P.info? T with
  | none => simp [hq] at hi
  | some i =>
    have hs : v.cells.size = i.size := by simp [hq] at hi; omega
    simp only [Nat.add_zero, List.append_assoc] at this
    simp only [storeVar, sizeOf, typeInfo, run_program, Sem.run_bind, Result.andThen_ok, hq, hs, Sem.run_pure, Sem.run_ite, ne_eq, not_true_eq_false, if_false, this]
    rfl
theorem wl_store {T T' : TypeId} {x y : Operand} {g off n : Nat} {v : Value} {cs : List Value} (L1 : List HA) {L2 : List HA} (hst : St w0 M w (L1 ++ .blk g T' cs :: L2)) (hop : o.op = .store T x y)
    (hw : Region.wanted o (yielded ops a.tmps) = true) (hx : a.eval x = .pointer (some ⟨g, off, none⟩)) (hy : a.eval y = v) [hi : TyN P T n] (hn : v.cells.size = n)
    (h1 : v.cells.toList.all (·.oneCell') = true) (hf : off + v.cells.size ≤ cs.length)
    (h : ∀ w', St w0 M w' (L1 ++ .blk g T' (putAt cs off v.cells.toList) :: L2) → wpList P ops Q rest (a.put o.dst undef) w') : wpList P ops Q (o :: rest) a w := by
  have hg : w.heap[g]? = some (.cells cs.toArray T' (0, 0)) := hst.all (.blk g T' cs) (by simp)
  refine wl_skip hw ?_ (h _ (hst.setRow _))
  unfold execOp
  simp only [hop, hx, hy, Instr.storeAt, Instr.sureAddr, Sem.run_bind, Sem.run_pure, Result.andThen_ok, storeVar_row hg (hn ▸ hi.out) h1 hf]
theorem wl_alloc {T : TypeId} {cs : List Value} (hst : St w0 M w L) (hop : o.op = .alloc T) (hw : Region.wanted o (yielded ops a.tmps) = true) [hzc : TyZ P T cs]
    (h : ∀ g w', St w0 M w' (.blk g T cs :: L) → wpList P ops Q rest (a.put o.dst (.pointer (some ⟨g, 0, none⟩))) w') : wpList P ops Q (o :: rest) a w := by
  refine wl_run hw ?_ (h _ _ (hst.alloc T cs))
  have hz := hzc.out
  unfold tyZ at hz
  cases hi : P.info? T with
  | none => simp [hi] at hz
  | some i =>
    cases hzz : i.zero with
    | none => simp [hi, hzz] at hz
    | some z =>
      have hc : z.cells.toList = cs := by simpa [hi, hzz] using hz
      subst hc
      unfold execOp
      simp [hop, Instr.alloc, zeroValue, typeInfo, hi, hzz, newVar, newRow]
theorem wl_box {T : TypeId} {x : Operand} {v : Value} (hst : St w0 M w L) (hop : o.op = .box T x) (hw : Region.wanted o (yielded ops a.tmps) = true) (hx : a.eval x = v)
    (h : ∀ g w', St w0 M w' (.blk g T v.cells.toList :: L) → wpList P ops Q rest (a.put o.dst (.pointer (some ⟨g, 0, none⟩))) w') : wpList P ops Q (o :: rest) a w := by
  refine wl_run hw ?_ (h _ _ (hst.alloc T v.cells.toList))
  unfold execOp
  simp [hop, hx, Instr.box, newVar, newRow]
theorem wl_boxA {T : TypeId} {x : Operand} {cs : List Value} (hst : St w0 M w L) (hop : o.op = .box T x) (hw : Region.wanted o (yielded ops a.tmps) = true) (hx : a.eval x = .agg cs.toArray)
    (h : ∀ g w', St w0 M w' (.blk g T cs :: L) → wpList P ops Q rest (a.put o.dst (.pointer (some ⟨g, 0, none⟩))) w') : wpList P ops Q (o :: rest) a w :=
  wl_box hst hop hw hx h
theorem wl_build0 {T : TypeId} {cs : List Value} (hop : o.op = .build T #[]) (hw : Region.wanted o (yielded ops a.tmps) = true) [hb : TyB P T cs]
    (h : wpList P ops Q rest (a.put o.dst (.agg cs.toArray)) w) : wpList P ops Q (o :: rest) a w := by
  refine wl_run hw ?_ h
  unfold execOp
  simp [hop, run_build w T _ _ hb.out]
theorem wl_buildSlice {T e : TypeId} {len : Nat} {parts : Array (Nat × Operand)} {cs : List Value} {sz bytes : Nat} (hst : St w0 M w L) (hop : o.op = .buildSlice T len parts) (hw : Region.wanted o (yielded ops a.tmps) = true)
    [ht : TySl P T e] [he : TyE P e sz bytes] (hlen : len * sz ≤ 2 ^ 24) (hn : len * sz = cs.length)
    (hf : ∀ z : Array Value, z.size = len * sz → Instr.fill (fun i => some (i * sz, sz)) z (parts.map fun p => (p.1, a.eval p.2)).toList = some cs.toArray)
    (h : ∀ g w', St w0 M w' (.blk g e cs :: L) → wpList P ops Q rest (a.put o.dst (.slice (some ⟨g, 0, none⟩) len len)) w') : wpList P ops Q (o :: rest) a w := by
  obtain ⟨i, z, hi, hz, hs, hb, hzs⟩ := tyE_spec he.out
  have ht := ht.out
  refine wl_run hw ?_ (h _ _ (hst.alloc e cs))
  unfold execOp
  have hl2 : ¬ (2 ^ 24 < len * sz) := by omega
  simp only [hop, Instr.buildSlice, Sem.run_bind, run_underlying ht, sizeOf, typeInfo, run_program, hi, Result.andThen_ok, Sem.run_pure, hs, Sem.run_ite, gt_iff_lt, hl2, if_false]
  by_cases h0 : len * sz = 0
  · have hf0 := hf ((Array.range (len * sz)).map fun x => (#[] : Array Value)[x % (#[] : Array Value).size]!) (by simp)
    simp only [h0] at hf0
    simp only [h0, if_true, Sem.run_pure, Result.andThen_ok, Sem.run_bind]
    rw [hf0]
    simp [newRow]
  · have hf0 := hf ((Array.range (len * sz)).map fun x => z.cells[x % z.cells.size]!) (by simp)
    simp only [h0, if_false, Sem.run_pure, Result.andThen_ok, Sem.run_bind, zeroValue, typeInfo, run_program, hi, hz]
    rw [hf0]
    simp [newRow]
end
def Rd (w : World) (v : Value) (sz n : Nat) (xs : List Value) : Prop :=
  xs.length = n * sz ∧ ∃ ao c, v = .slice ao n c ∧ n ≤ c ∧ c ≤ maxLen ∧ (ao = none → n = 0 ∧ c = 0) ∧ ∀ A, ao = some A → c ≠ 0 → ∃ b off, A = ⟨b, off, none⟩ ∧ w.rangeAt b off xs
section
variable {w0 w w' : World} {M : List Nat} {L : List HA} {v : Value} {sz n : Nat} {xs : List Value}
theorem Rd.cases (h : Rd w v sz n xs) : (v = .slice none 0 0 ∧ n = 0 ∧ xs = []) ∨ (∃ A, v = .slice (some A) 0 0 ∧ n = 0 ∧ xs = []) ∨ ∃ b off c, v = .slice (some ⟨b, off, none⟩) n c ∧ n ≤ c ∧ c ≤ maxLen ∧ xs.length = n * sz ∧ w.rangeAt b off xs := by
  obtain ⟨hl, ao, c, rfl, hn, hc, hnone, hsome⟩ := h
  cases ao with
  | none =>
    obtain ⟨rfl, rfl⟩ := hnone rfl
    exact .inl ⟨rfl, rfl, List.eq_nil_of_length_eq_zero (by simpa using hl)⟩
  | some A =>
    by_cases h0 : c = 0
    · subst h0
      obtain rfl : n = 0 := by omega
      exact .inr (.inl ⟨A, rfl, rfl, List.eq_nil_of_length_eq_zero (by simpa using hl)⟩)
    · obtain ⟨b, off, rfl, hr⟩ := hsome A rfl h0
      exact .inr (.inr ⟨b, off, c, rfl, hn, hc, hl, hr⟩)
theorem Rd.casesF (h : Rd w v sz n xs) : (v = .slice none 0 0 ∧ n = 0 ∧ xs = []) ∨ ∃ A c, v = .slice (some A) n c ∧ n ≤ c ∧ c ≤ maxLen ∧ xs.length = n * sz := by
  obtain ⟨hl, ao, c, rfl, hn, hc, hnone, hsome⟩ := h
  cases ao with
  | none =>
    obtain ⟨rfl, rfl⟩ := hnone rfl
    exact .inl ⟨rfl, rfl, List.eq_nil_of_length_eq_zero (by simpa using hl)⟩
  | some A => exact .inr ⟨A, c, rfl, hn, hc, hl⟩
theorem Rd.range {b off c : Nat} (h : Rd w (.slice (some ⟨b, off, none⟩) n c) sz n xs) : w.rangeAt b off xs := by
  rcases h.cases with ⟨he, _⟩ | ⟨A, he, h0, rfl⟩ | ⟨b', off', c', he, _, _, _, hr⟩
  · cases he
  · intro j v hv
    cases hv
  · cases he
    exact hr
theorem Rd.nil (w : World) (sz : Nat) : Rd w (.slice none 0 0) sz 0 [] := ⟨by simp, none, 0, rfl, Nat.le_refl _, by simp [maxLen], fun _ => ⟨rfl, rfl⟩, (fun A h => by cases h)⟩
theorem Rd.mk {b off c : Nat} (hn : n ≤ c) (hc : c ≤ maxLen) (hl : xs.length = n * sz) (hr : w.rangeAt b off xs) : Rd w (.slice (some ⟨b, off, none⟩) n c) sz n xs :=
  ⟨hl, some ⟨b, off, none⟩, c, rfl, hn, hc, (fun h => by cases h), fun _ hA _ => ⟨b, off, (Option.some.inj hA).symm, hr⟩⟩
theorem Rd.empty (w : World) (sz : Nat) (A : Addr) : Rd w (.slice (some A) 0 0) sz 0 [] := ⟨by simp, some A, 0, rfl, Nat.le_refl _, by simp [maxLen], (fun h => by cases h), fun _ _ h => absurd rfl h⟩
theorem Rd.old (hst : St w0 [] w L) (h : Rd w0 v sz n xs) : Rd w v sz n xs := by
  obtain ⟨hl, ao, c, rfl, hn, hc, hnone, hsome⟩ := h
  refine ⟨hl, ao, c, rfl, hn, hc, hnone, fun A hA h0 => ?_⟩
  obtain ⟨b, off, rfl, hr⟩ := hsome A hA h0
  exact ⟨b, off, rfl, fun j u hu => hst.old_cell (hr j u hu) (by simp)⟩
theorem Rd.row {T : TypeId} (hst : St w0 M w L) (hm : HA.row v T sz n xs ∈ L) : Rd w v sz n xs := by
  obtain ⟨hl, hr⟩ := hst.all _ hm
  rcases hr with ⟨rfl, rfl⟩ | ⟨g, cap, cur, rfl, _, hg, hnc, hcm, hsz, htake⟩
  · have : xs = [] := List.eq_nil_of_length_eq_zero (by simpa using hl)
    subst this
    exact Rd.nil w sz
  · refine Rd.mk hnc hcm hl fun j u hu => ?_
    rw [Nat.zero_add, cell_of_row w g j cur T (0, 0) hg]
    rw [← htake, List.getElem?_take] at hu
    split at hu
    · simpa using hu
    · simp at hu
theorem Rd.blk {T : TypeId} {g off c : Nat} {cs : List Value} (hst : St w0 M w L) (hm : HA.blk g T cs ∈ L) (hn : n ≤ c) (hc : c ≤ maxLen) (hl : xs.length = n * sz) (hx : (cs.drop off).take xs.length = xs) :
    Rd w (.slice (some ⟨g, off, none⟩) n c) sz n xs :=
  Rd.mk hn hc hl (by have := rangeAt_take (n := xs.length) (hst.range (off := off) hm); rwa [hx] at this)
end
def bytesV (l : List UInt8) : List Value := l.map fun x => .int .u8 x.toNat
@[simp] theorem length_bytesV (l : List UInt8) : (bytesV l).length = l.length := by simp [bytesV]
theorem forIn_bytesV {w : World} (f : Value → ByteArray → Sem (ForInStep ByteArray))
    (hf : ∀ (n : Int) (r : ByteArray), (f (.int .u8 n) r).run P w = .ok (.yield (r.push (UInt8.ofNat n.toNat))) w) (l : List UInt8) (s : ByteArray) :
    (forIn (bytesV l) s f).run P w = .ok ⟨s.data ++ l.toArray⟩ w := by
  induction l generalizing s with
  | nil => simp [bytesV]
  | cons x l ih =>
    have : bytesV (x :: l) = .int .u8 x.toNat :: bytesV l := rfl
    rw [this]
    simp only [List.forIn_cons, Sem.run_bind, hf, Result.andThen]
    rw [ih]
    congr 1
    simp [ByteArray.push]
theorem run_bytes_string {w : World} {src dst e : TypeId} {v : Value} {n : Nat} {l : List UInt8} (hs : P.underlying src = some (.slice e)) (he : P.underlying e = some (.int .u8)) (hd : P.underlying dst = some .string)
    (h : Rd w v 1 n (bytesV l)) : (convert src dst v).run P w = .ok (.string ⟨l.toArray⟩) w := by
  rcases h.cases with ⟨rfl, rfl, hl⟩ | ⟨A, rfl, rfl, hl⟩ | ⟨b, off, c, rfl, hn, hc, hl, hr⟩
  · have : l = [] := by simpa [bytesV] using hl
    subst this
    rw [run_convert_bytes_string w src dst e _ _ _ hs he hd]
    rfl
  · have : l = [] := by simpa [bytesV] using hl
    subst this
    rw [run_convert_bytes_string w src dst e _ _ _ hs he hd]
    rfl
  · rw [run_convert_bytes_string w src dst e _ _ _ hs he hd]
    have hlc : (loadCells ⟨b, off, none⟩ n).run P w = .ok (bytesV l).toArray w := by
      have := run_loadCells_list (P := P) w ⟨b, off, none⟩ (bytesV l) (fun j v hv => by rw [Addr.add_mid]; exact hr j v hv)
      rwa [hl, Nat.mul_one] at this
    unfold Conv.bytesToString
    simp only [Sem.run_bind, hlc, Result.andThen, List.forIn_toArray]
    rw [forIn_bytesV _ (by intro n r; simp [Sem.run_pure])]
    simp [Sem.run_pure]
theorem wl_bytes_string {ops : Array Oper} {rest : List Oper} {o : Oper} {a : Act} {w : World} {Q : Exit → Act → World → Prop} {src dst e : TypeId} {x : Operand} {v : Value} {n : Nat} {l : List UInt8}
    (hop : o.op = .convert src dst x) (hw : Region.wanted o (yielded ops a.tmps) = true) (hx : a.eval x = v)
    [hs : TySl P src e] [he : TyI P e .u8] [hd : TyStr P dst]
    (hr : Rd w v 1 n (bytesV l)) (h : wpList P ops Q rest (a.put o.dst (.string ⟨l.toArray⟩)) w) : wpList P ops Q (o :: rest) a w := by
  refine wl_run hw ?_ h
  unfold execOp
  simp only [hop, hx, Sem.run_bind, run_bytes_string hs.out he.out hd.out hr, Result.andThen_ok, Sem.run_pure]
end
end Hp
end Go.Proofs.YtmdfbdfijnmhkaaGreat
