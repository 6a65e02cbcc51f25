/- A string's bytes appended to a new block, and copied onto a known one. No program in sight. -/
import Derived.Test.YtalfdcfcaamnbaaSepQ
import Derived.Lib.AppendStr
import Derived.Lib.BufferWrite
namespace Go.Proofs.Ytalfdcfcaamnbaa
set_option linter.unusedVariables false
set_option linter.unusedSimpArgs false
open Go.RowKit
namespace Hp
variable {P : Program}
theorem strCells_bytes (l : List UInt8) : Lib.strCells ⟨l.toArray⟩ = bytesV l := rfl
theorem byteCells_bytes (l : List UInt8) : Lib.byteCells l = bytesV l := rfl
theorem run_appStr {w0 w : World} {M : List Nat} {L : List HA} {t u ty e : TypeId} {g n cap bytes : Nat} {cs : List Value} {l : List UInt8} (hst : St w0 M w (.blk g e cs :: L)) (ht : P.underlying t = some (.slice e)) (hu : P.underlying u = some .string)
    (he : tyE P e 1 bytes = true) (hz : tyZ P e = some [.int .u8 0]) (hcs : cs.length = cap) (hn : n ≤ cap) (hB : cs.all isB = true) (hb : cap ≤ 1000000000 ∧ l.length ≤ 1000000000 ∧ bytes = 1) :
    ∃ v' w', (Builtin.append_ #[t, u] ty #[.slice (some ⟨g, 0, none⟩) n cap, .string ⟨l.toArray⟩]).run P w = .ok v' w' ∧ St w0 M w' (.rowP isB v' e 1 (n + l.length) (cs.take n ++ bytesV l) :: L) := by
  obtain ⟨i, z, hi, hzz, hs, hbs, hzs⟩ := tyE_spec he
  obtain ⟨hb1, hb2, hb3⟩ := hb
  have hzc : z.cells.toList = [.int .u8 0] := by
    unfold tyZ at hz
    simpa [hi, hzz] using hz
  have hsz : (⟨l.toArray⟩ : ByteArray).size = l.length := by simp [ByteArray.size]
  have hg : w.heap[g]? = some (.cells cs.toArray e (0, 0)) := hst.all _ (.head _)
  by_cases hroom : n + l.length ≤ cap
  · have hr := Lib.run_append_room_string (P := P) w t u ty e i ht hu hi hs g n cap cs.toArray hg ⟨l.toArray⟩ (by rw [hsz]; exact hroom) (by rw [hsz]; simp; omega)
    rw [hsz, strCells_bytes] at hr
    refine ⟨_, _, hr, ?_⟩
    have h1 := St.setRow (L1 := []) hst (cs.take n ++ bytesV l ++ cs.drop (n + l.length))
    have h2 := St.toRowP (n := n + l.length) (cap := cap) (sz := 1) isB h1 (by simp; omega) hroom (by omega) (by
      rw [List.all_append, List.all_append, isB_bytes]
      rw [List.all_eq_true] at hB
      simp only [Bool.and_eq_true, Bool.and_true, List.all_eq_true]
      exact ⟨fun x hx => hB x (List.mem_of_mem_take hx), fun x hx => hB x (List.mem_of_mem_drop hx)⟩)
    have e1 : (cs.take n ++ bytesV l ++ cs.drop (n + l.length)).take ((n + l.length) * 1) = cs.take n ++ bytesV l := by
      rw [Nat.mul_one]
      refine List.take_left' ?_
      simp; omega
    rw [e1] at h2
    exact h2
  · have holds : ∀ j v, (cs.take n)[j]? = some v → w.cell? ((⟨g, 0, none⟩ : Addr).add j) = some v := by
      intro j v hv
      rw [List.getElem?_take] at hv
      split at hv
      · rw [Addr.add_mid]
        exact hst.cell (.head _) (by simpa using hv)
      · cases hv
    have h2c : Builtin.nextslicecap (n + l.length) cap * 1 ≤ 281474976710656 := growslice_fits (by omega) (by omega)
    have hr := Lib.run_append_grow_string (P := P) w t u ty e i z ht hu hi hzz ⟨g, 0, none⟩ n cap (cs.take n) (by rw [hs]; simp; omega) holds ⟨l.toArray⟩ (by rw [hsz]; omega) (by rw [hsz]; omega) (by rw [hsz, hbs, hb3]; exact h2c)
    rw [hsz, strCells_bytes] at hr
    refine ⟨_, _, hr, ?_⟩
    have hge := grownCap_ge w (n + l.length) cap e
    have hcm : grownCap w (n + l.length) cap e ≤ maxLen := grownCap_le_maxLen w (n + l.length) cap e (by unfold maxLen; omega)
    have h3 := St.alloc hst.drew e (cs.take n ++ bytesV l ++ (Builtin.zeroCells z.cells (grownCap w (n + l.length) cap e - (n + l.length))).toList)
    have hzl : (Builtin.zeroCells z.cells (grownCap w (n + l.length) cap e - (n + l.length))).size = grownCap w (n + l.length) cap e - (n + l.length) := by
      rw [size_zeroCells, hzs, Nat.mul_one]
    have h4 := St.toRowP (n := n + l.length) (cap := grownCap w (n + l.length) cap e) (sz := 1) isB h3 (by simp [hzl]; omega) hge hcm (by
      rw [List.all_append, List.all_append, isB_bytes]
      rw [List.all_eq_true] at hB
      simp only [Bool.and_eq_true, Bool.and_true]
      refine ⟨List.all_eq_true.2 fun x hx => hB x (List.mem_of_mem_take hx), all_zeroCells (by rw [hzc]; rfl) _⟩)
    have e1 : (cs.take n ++ bytesV l ++ (Builtin.zeroCells z.cells (grownCap w (n + l.length) cap e - (n + l.length))).toList).take ((n + l.length) * 1) = cs.take n ++ bytesV l := by
      rw [Nat.mul_one]
      refine List.take_left' ?_
      simp; omega
    rw [e1] at h4
    have e2 : (cs.take n ++ bytesV l ++ (Builtin.zeroCells z.cells (grownCap w (n + l.length) cap e - (n + l.length))).toList).toArray = (cs.take n).toArray ++ (bytesV l).toArray ++ Builtin.zeroCells z.cells (grownCap w (n + l.length) cap e - (n + l.length)) := by
      apply Array.ext'
      simp
    rw [e2] at h4
    exact St.sub h4 (.cons_cons _ (.cons _ (List.Sublist.refl _)))
section
variable {ops : Array Oper} {rest : List Oper} {o : Oper} {a : Act} {w0 w : World} {M : List Nat} {Q : Exit → Act → World → Prop}
theorem wl_appStr {s x : Operand} {t u e : TypeId} {g n cap bytes : Nat} {cs : List Value} {l : List UInt8} {L : List HA} (hst : St w0 M w (.blk g e cs :: L))
    (hop : o.op = .call { callee := .builtin .append, args := #[s, x], argTypes := #[t, u] }) (hw : Region.wanted o (yielded ops a.tmps) = true) (hs : a.eval s = .slice (some ⟨g, 0, none⟩) n cap) (hx : a.eval x = .string ⟨l.toArray⟩)
    (ht : TySl P t e) (hu : TyStr P u) (he : TyE P e 1 bytes) (hz : TyZ P e [.int .u8 0]) (hcs : cs.length = cap) (hn : n ≤ cap) (hB : cs.all isB = true) (hb : cap ≤ 1000000000 ∧ l.length ≤ 1000000000 ∧ bytes = 1)
    (h : ∀ v' w', St w0 M w' (.rowP isB v' e 1 (n + l.length) (cs.take n ++ bytesV l) :: L) → wpList P ops Q rest (a.put o.dst v') w') : wpList P ops Q (o :: rest) a w := by
  obtain ⟨v', w', hr, h2⟩ := run_appStr (P := P) (ty := o.type) hst ht.out hu.out he.out hz.out hcs hn hB hb
  refine wl_run hw ?_ (h v' w' h2)
  unfold execOp
  simp only [hop, resolve, invoke, builtin, Sem.run_bind, Sem.run_pure, Result.andThen_ok, List.map_toArray, List.map_cons, List.map_nil, hs, hx]
  rw [hr]
  rfl
theorem run_copyStr {L1 L2 : List HA} {t u ty e : TypeId} {T : TypeId} {g off n c : Nat} {cs : List Value} {l : List UInt8} (hst : St w0 M w (L1 ++ .blk g T cs :: L2)) (ht : P.underlying t = some (.slice e)) (he : (P.info? e).map (·.size) = some 1)
    (hle : l.length ≤ n) (hf : off + l.length ≤ cs.length) :
    (Builtin.copy_ #[t, u] ty #[.slice (some ⟨g, off, none⟩) n c, .string ⟨l.toArray⟩]).run P w = .ok (.int .i64 l.length) (w.setRow g (putAt cs off (bytesV l)).toArray) := by
  have hsz : (⟨l.toArray⟩ : ByteArray).size = l.length := by simp [ByteArray.size]
  have hg : w.heap[g]? = some (.cells cs.toArray T (0, 0)) := hst.all (.blk g T cs) (by simp)
  have h := Lib.run_copy_row_string (P := P) w t u ty e g off n c ⟨l.toArray⟩ cs.toArray T ht he hg (by rw [hsz]; exact hle) (by rw [hsz]; simpa using hf)
  rw [hsz] at h
  rw [h]
  have e1 : (putAt cs off (bytesV l)).toArray = (cs.toArray.toList.take off ++ Lib.byteCells l ++ cs.toArray.toList.drop (off + l.length)).toArray := by
    simp [putAt, byteCells_bytes]
  rw [e1]
  rfl
theorem ow_copyStr {K : Act → World → Prop} {d x : Operand} {g off n c : Nat} {T e t t' : TypeId} {cs : List Value} {l : List UInt8} (L1 : List HA) {L2 : List HA} (hst : St w0 M w (L1 ++ .blk g T cs :: L2))
    (hop : o.op = .call { callee := .builtin .copy, args := #[d, x], argTypes := #[t, t'] }) (hd : a.eval d = .slice (some ⟨g, off, none⟩) n c) (hx : a.eval x = .string ⟨l.toArray⟩)
    (ht : TySl P t e) (he : TyN P e 1) (hm : l.length ≤ n) (hf : off + l.length ≤ cs.length)
    (h : ∀ w', St w0 M w' (L1 ++ .blk g T (putAt cs off (bytesV l)) :: L2) → K (a.put o.dst (.int .i64 l.length)) w') : o.wp P a w K Q := by
  refine ow_run ?_ (h _ (hst.setRow _))
  unfold execOp
  simp only [hop, resolve, invoke, builtin, Sem.run_bind, Sem.run_pure, Result.andThen_ok, List.map_toArray, List.map_cons, List.map_nil, hd, hx]
  rw [run_copyStr hst ht.out he.out hm hf]
  rfl
theorem wl_copyStr {d x : Operand} {g off n c : Nat} {T e t t' : TypeId} {cs : List Value} {l : List UInt8} (L1 : List HA) {L2 : List HA} (hst : St w0 M w (L1 ++ .blk g T cs :: L2))
    (hop : o.op = .call { callee := .builtin .copy, args := #[d, x], argTypes := #[t, t'] }) (hw : Region.wanted o (yielded ops a.tmps) = true) (hd : a.eval d = .slice (some ⟨g, off, none⟩) n c) (hx : a.eval x = .string ⟨l.toArray⟩)
    (ht : TySl P t e) (he : TyN P e 1) (hm : l.length ≤ n) (hf : off + l.length ≤ cs.length)
    (h : ∀ w', St w0 M w' (L1 ++ .blk g T (putAt cs off (bytesV l)) :: L2) → wpList P ops Q rest (a.put o.dst (.int .i64 l.length)) w') : wpList P ops Q (o :: rest) a w := by
  refine wl_run hw ?_ (h _ (hst.setRow _))
  unfold execOp
  simp only [hop, resolve, invoke, builtin, Sem.run_bind, Sem.run_pure, Result.andThen_ok, List.map_toArray, List.map_cons, List.map_nil, hd, hx]
  rw [run_copyStr hst ht.out he.out hm hf]
  rfl
end
end Hp
end Go.Proofs.Ytalfdcfcaamnbaa
