/- What four claims of chapter 12 rest on (for bundle.py alone). -/
import Derived.Test.YtkpkaoiafppimaaSepQ
import Derived.Lib.AppendStr
import Derived.Lib.BufferWrite
import Derived.Test.YtkpkaoiafppimaaJBasef
import Derived.Test.YtkpkaoiafppimaaJBased
import Derived.Test.YtkpkaoiafppimaaJBasea
import Derived.Test.YtkpkaoiafppimaaJBasec
import Derived.Test.YtkpkaoiafppimaaKTy
import Derived.IntWalk
import Derived.Test.YtkpkaoiafppimaaPost
import Derived.Test.YtkpkaoiafppimaaOpenS
import Derived.Test.YtkpkaoiafppimaaOpenB
import Derived.Test.YtkpkaoiafppimaaT18
namespace Go.Proofs.Ytkpkaoiafppimaa
set_option linter.unusedVariables false
set_option linter.unusedSimpArgs false
open Go.RowKit
namespace Hp
variable {P : Program}
theorem strCells_bytes (l : List UInt8) : Lib.strCells ⟨l.toArray⟩ = bytesV l := rfl
theorem byteCells_bytes (l : List UInt8) : Lib.byteCells l = bytesV l := rfl
theorem run_appStr {w0 w : World} {M : List Nat} {L : List HA} {t u ty e : TypeId} {g n cap bytes : Nat} {cs : List Value} {l : List UInt8} (hst : St w0 M w (.blk g e cs :: L)) (ht : P.underlying t = some (.slice e)) (hu : P.underlying u = some .string)
    (he : tyE P e 1 bytes = true) (hz : tyZ P e = some [.int .u8 0]) (hcs : cs.length = cap) (hn : n ≤ cap) (hB : cs.all isB = true) (hb : cap ≤ 1000000000 ∧ l.length ≤ 1000000000 ∧ bytes = 1) :
    ∃ v' w', (Builtin.append_ #[t, u] ty #[.slice (some ⟨g, 0, none⟩) n cap, .string ⟨l.toArray⟩]).run P w = .ok v' w' ∧ St w0 M w' (.rowP isB v' e 1 (n + l.length) (cs.take n ++ bytesV l) :: L) := by
  obtain ⟨i, z, hi, hzz, hs, hbs, hzs⟩ := tyE_spec he
  obtain ⟨hb1, hb2, hb3⟩ := hb
  have hzc : z.cells.toList = [.int .u8 0] := by
    unfold tyZ at hz
    simpa [hi, hzz] using hz
  have hsz : (⟨l.toArray⟩ : ByteArray).size = l.length := by simp [ByteArray.size]
  have hg : w.heap[g]? = some (.cells cs.toArray e (0, 0)) := hst.all _ (.head _)
  by_cases hroom : n + l.length ≤ cap
  · have hr := Lib.run_append_room_string (P := P) w t u ty e i ht hu hi hs g n cap cs.toArray hg ⟨l.toArray⟩ (by rw [hsz]; exact hroom) (by rw [hsz]; simp; omega)
    rw [hsz, strCells_bytes] at hr
    refine ⟨_, _, hr, ?_⟩
    have h1 := St.setRow (L1 := []) hst (cs.take n ++ bytesV l ++ cs.drop (n + l.length))
    have h2 := St.toRowP (n := n + l.length) (cap := cap) (sz := 1) isB h1 (by simp; omega) hroom (by omega) (by
      rw [List.all_append, List.all_append, isB_bytes]
      rw [List.all_eq_true] at hB
      simp only [Bool.and_eq_true, Bool.and_true, List.all_eq_true]
      exact ⟨fun x hx => hB x (List.mem_of_mem_take hx), fun x hx => hB x (List.mem_of_mem_drop hx)⟩)
    have e1 : (cs.take n ++ bytesV l ++ cs.drop (n + l.length)).take ((n + l.length) * 1) = cs.take n ++ bytesV l := by
      rw [Nat.mul_one]
      refine List.take_left' ?_
      simp; omega
    rw [e1] at h2
    exact h2
  · have holds : ∀ j v, (cs.take n)[j]? = some v → w.cell? ((⟨g, 0, none⟩ : Addr).add j) = some v := by
      intro j v hv
      rw [List.getElem?_take] at hv
      split at hv
      · rw [Addr.add_mid]
        exact hst.cell (.head _) (by simpa using hv)
      · cases hv
    have h2c : Builtin.nextslicecap (n + l.length) cap * 1 ≤ 281474976710656 := growslice_fits (by omega) (by omega)
    have hr := Lib.run_append_grow_string (P := P) w t u ty e i z ht hu hi hzz ⟨g, 0, none⟩ n cap (cs.take n) (by rw [hs]; simp; omega) holds ⟨l.toArray⟩ (by rw [hsz]; omega) (by rw [hsz]; omega) (by rw [hsz, hbs, hb3]; exact h2c)
    rw [hsz, strCells_bytes] at hr
    refine ⟨_, _, hr, ?_⟩
    have hge := grownCap_ge w (n + l.length) cap e
    have hcm : grownCap w (n + l.length) cap e ≤ maxLen := grownCap_le_maxLen w (n + l.length) cap e (by unfold maxLen; omega)
    have h3 := St.alloc hst.drew e (cs.take n ++ bytesV l ++ (Builtin.zeroCells z.cells (grownCap w (n + l.length) cap e - (n + l.length))).toList)
    have hzl : (Builtin.zeroCells z.cells (grownCap w (n + l.length) cap e - (n + l.length))).size = grownCap w (n + l.length) cap e - (n + l.length) := by
      rw [size_zeroCells, hzs, Nat.mul_one]
    have h4 := St.toRowP (n := n + l.length) (cap := grownCap w (n + l.length) cap e) (sz := 1) isB h3 (by simp [hzl]; omega) hge hcm (by
      rw [List.all_append, List.all_append, isB_bytes]
      rw [List.all_eq_true] at hB
      simp only [Bool.and_eq_true, Bool.and_true]
      refine ⟨List.all_eq_true.2 fun x hx => hB x (List.mem_of_mem_take hx), all_zeroCells (by rw [hzc]; rfl) _⟩)
    have e1 : (cs.take n ++ bytesV l ++ (Builtin.zeroCells z.cells (grownCap w (n + l.length) cap e - (n + l.length))).toList).take ((n + l.length) * 1) = cs.take n ++ bytesV l := by
      rw [Nat.mul_one]
      refine List.take_left' ?_
      simp; omega
    rw [e1] at h4
    have e2 : (cs.take n ++ bytesV l ++ (Builtin.zeroCells z.cells (grownCap w (n + l.length) cap e - (n + l.length))).toList).toArray = (cs.take n).toArray ++ (bytesV l).toArray ++ Builtin.zeroCells z.cells (grownCap w (n + l.length) cap e - (n + l.length)) := by
      apply Array.ext'
      simp
    rw [e2] at h4
    exact St.sub h4 (.cons_cons _ (.cons _ (List.Sublist.refl _)))
section
variable {ops : Array Oper} {rest : List Oper} {o : Oper} {a : Act} {w0 w : World} {M : List Nat} {Q : Exit → Act → World → Prop}
theorem wl_appStr {s x : Operand} {t u e : TypeId} {g n cap bytes : Nat} {cs : List Value} {l : List UInt8} {L : List HA} (hst : St w0 M w (.blk g e cs :: L))
    (hop : o.op = .call { callee := .builtin .append, args := #[s, x], argTypes := #[t, u] }) (hw : Region.wanted o (yielded ops a.tmps) = true) (hs : a.eval s = .slice (some ⟨g, 0, none⟩) n cap) (hx : a.eval x = .string ⟨l.toArray⟩)
    (ht : TySl P t e) (hu : TyStr P u) (he : TyE P e 1 bytes) (hz : TyZ P e [.int .u8 0]) (hcs : cs.length = cap) (hn : n ≤ cap) (hB : cs.all isB = true) (hb : cap ≤ 1000000000 ∧ l.length ≤ 1000000000 ∧ bytes = 1)
    (h : ∀ v' w', St w0 M w' (.rowP isB v' e 1 (n + l.length) (cs.take n ++ bytesV l) :: L) → wpList P ops Q rest (a.put o.dst v') w') : wpList P ops Q (o :: rest) a w := by
  obtain ⟨v', w', hr, h2⟩ := run_appStr (P := P) (ty := o.type) hst ht.out hu.out he.out hz.out hcs hn hB hb
  refine wl_run hw ?_ (h v' w' h2)
  unfold execOp
  simp only [hop, resolve, invoke, builtin, Sem.run_bind, Sem.run_pure, Result.andThen_ok, List.map_toArray, List.map_cons, List.map_nil, hs, hx]
  rw [hr]
  rfl
theorem run_copyStr {L1 L2 : List HA} {t u ty e : TypeId} {T : TypeId} {g off n c : Nat} {cs : List Value} {l : List UInt8} (hst : St w0 M w (L1 ++ .blk g T cs :: L2)) (ht : P.underlying t = some (.slice e)) (he : (P.info? e).map (·.size) = some 1)
    (hle : l.length ≤ n) (hf : off + l.length ≤ cs.length) :
    (Builtin.copy_ #[t, u] ty #[.slice (some ⟨g, off, none⟩) n c, .string ⟨l.toArray⟩]).run P w = .ok (.int .i64 l.length) (w.setRow g (putAt cs off (bytesV l)).toArray) := by
  have hsz : (⟨l.toArray⟩ : ByteArray).size = l.length := by simp [ByteArray.size]
  have hg : w.heap[g]? = some (.cells cs.toArray T (0, 0)) := hst.all (.blk g T cs) (by simp)
  have h := Lib.run_copy_row_string (P := P) w t u ty e g off n c ⟨l.toArray⟩ cs.toArray T ht he hg (by rw [hsz]; exact hle) (by rw [hsz]; simpa using hf)
  rw [hsz] at h
  rw [h]
  have e1 : (putAt cs off (bytesV l)).toArray = (cs.toArray.toList.take off ++ Lib.byteCells l ++ cs.toArray.toList.drop (off + l.length)).toArray := by
    simp [putAt, byteCells_bytes]
  rw [e1]
  rfl
theorem ow_copyStr {K : Act → World → Prop} {d x : Operand} {g off n c : Nat} {T e t t' : TypeId} {cs : List Value} {l : List UInt8} (L1 : List HA) {L2 : List HA} (hst : St w0 M w (L1 ++ .blk g T cs :: L2))
    (hop : o.op = .call { callee := .builtin .copy, args := #[d, x], argTypes := #[t, t'] }) (hd : a.eval d = .slice (some ⟨g, off, none⟩) n c) (hx : a.eval x = .string ⟨l.toArray⟩)
    (ht : TySl P t e) (he : TyN P e 1) (hm : l.length ≤ n) (hf : off + l.length ≤ cs.length)
    (h : ∀ w', St w0 M w' (L1 ++ .blk g T (putAt cs off (bytesV l)) :: L2) → K (a.put o.dst (.int .i64 l.length)) w') : o.wp P a w K Q := by
  refine ow_run ?_ (h _ (hst.setRow _))
  unfold execOp
  simp only [hop, resolve, invoke, builtin, Sem.run_bind, Sem.run_pure, Result.andThen_ok, List.map_toArray, List.map_cons, List.map_nil, hd, hx]
  rw [run_copyStr hst ht.out he.out hm hf]
  rfl
theorem wl_copyStr {d x : Operand} {g off n c : Nat} {T e t t' : TypeId} {cs : List Value} {l : List UInt8} (L1 : List HA) {L2 : List HA} (hst : St w0 M w (L1 ++ .blk g T cs :: L2))
    (hop : o.op = .call { callee := .builtin .copy, args := #[d, x], argTypes := #[t, t'] }) (hw : Region.wanted o (yielded ops a.tmps) = true) (hd : a.eval d = .slice (some ⟨g, off, none⟩) n c) (hx : a.eval x = .string ⟨l.toArray⟩)
    (ht : TySl P t e) (he : TyN P e 1) (hm : l.length ≤ n) (hf : off + l.length ≤ cs.length)
    (h : ∀ w', St w0 M w' (L1 ++ .blk g T (putAt cs off (bytesV l)) :: L2) → wpList P ops Q rest (a.put o.dst (.int .i64 l.length)) w') : wpList P ops Q (o :: rest) a w := by
  refine wl_run hw ?_ (h _ (hst.setRow _))
  unfold execOp
  simp only [hop, resolve, invoke, builtin, Sem.run_bind, Sem.run_pure, Result.andThen_ok, List.map_toArray, List.map_cons, List.map_nil, hd, hx]
  rw [run_copyStr hst ht.out he.out hm hf]
  rfl
end
end Hp
end Go.Proofs.Ytkpkaoiafppimaa
namespace Go.Proofs.Ytkpkaoiafppimaa
set_option linter.unusedVariables false
set_option linter.unusedSimpArgs false
open Go.RowKit
namespace Hp
variable {P : Program}
theorem run_appStr2 {w0 w : World} {M : List Nat} {L : List HA} {t u ty e : TypeId} {g n cap bytes : Nat} {cs : List Value} {l : List UInt8} (hst : St w0 M w (.blk g e cs :: L)) (ht : P.underlying t = some (.slice e)) (hu : P.underlying u = some .string)
    (he : tyE P e 1 bytes = true) (hz : tyZ P e = some [.int .u8 0]) (hcs : cs.length = cap) (hn : n ≤ cap) (hB : cs.all isB = true) (hb : n ≤ 1000000000 ∧ l.length ≤ 1000000000 ∧ bytes = 1) (hcap : cap ≤ 9223372036854775807) :
    ∃ v' w', (Builtin.append_ #[t, u] ty #[.slice (some ⟨g, 0, none⟩) n cap, .string ⟨l.toArray⟩]).run P w = .ok v' w' ∧ St w0 M w' (.rowP isB v' e 1 (n + l.length) (cs.take n ++ bytesV l) :: L) := by
  obtain ⟨i, z, hi, hzz, hs, hbs, hzs⟩ := tyE_spec he
  obtain ⟨hb1, hb2, hb3⟩ := hb
  have hzc : z.cells.toList = [.int .u8 0] := by
    unfold tyZ at hz
    simpa [hi, hzz] using hz
  have hsz : (⟨l.toArray⟩ : ByteArray).size = l.length := by simp [ByteArray.size]
  have hg : w.heap[g]? = some (.cells cs.toArray e (0, 0)) := hst.all _ (.head _)
  by_cases hroom : n + l.length ≤ cap
  · have hr := Lib.run_append_room_string (P := P) w t u ty e i ht hu hi hs g n cap cs.toArray hg ⟨l.toArray⟩ (by rw [hsz]; exact hroom) (by rw [hsz]; simp; omega)
    rw [hsz, strCells_bytes] at hr
    refine ⟨_, _, hr, ?_⟩
    have h1 := St.setRow (L1 := []) hst (cs.take n ++ bytesV l ++ cs.drop (n + l.length))
    have h2 := St.toRowP (n := n + l.length) (cap := cap) (sz := 1) isB h1 (by simp; omega) hroom (by omega) (by
      rw [List.all_append, List.all_append, isB_bytes]
      rw [List.all_eq_true] at hB
      simp only [Bool.and_eq_true, Bool.and_true, List.all_eq_true]
      exact ⟨fun x hx => hB x (List.mem_of_mem_take hx), fun x hx => hB x (List.mem_of_mem_drop hx)⟩)
    have e1 : (cs.take n ++ bytesV l ++ cs.drop (n + l.length)).take ((n + l.length) * 1) = cs.take n ++ bytesV l := by
      rw [Nat.mul_one]
      refine List.take_left' ?_
      simp; omega
    rw [e1] at h2
    exact h2
  · have holds : ∀ j v, (cs.take n)[j]? = some v → w.cell? ((⟨g, 0, none⟩ : Addr).add j) = some v := by
      intro j v hv
      rw [List.getElem?_take] at hv
      split at hv
      · rw [Addr.add_mid]
        exact hst.cell (.head _) (by simpa using hv)
      · cases hv
    have h2c : Builtin.nextslicecap (n + l.length) cap * 1 ≤ 281474976710656 := growslice_fits (by omega) (by omega)
    have hr := Lib.run_append_grow_string (P := P) w t u ty e i z ht hu hi hzz ⟨g, 0, none⟩ n cap (cs.take n) (by rw [hs]; simp; omega) holds ⟨l.toArray⟩ (by rw [hsz]; omega) (by rw [hsz]; omega) (by rw [hsz, hbs, hb3]; exact h2c)
    rw [hsz, strCells_bytes] at hr
    refine ⟨_, _, hr, ?_⟩
    have hge := grownCap_ge w (n + l.length) cap e
    have hcm : grownCap w (n + l.length) cap e ≤ maxLen := grownCap_le_maxLen w (n + l.length) cap e (by unfold maxLen; omega)
    have h3 := St.alloc hst.drew e (cs.take n ++ bytesV l ++ (Builtin.zeroCells z.cells (grownCap w (n + l.length) cap e - (n + l.length))).toList)
    have hzl : (Builtin.zeroCells z.cells (grownCap w (n + l.length) cap e - (n + l.length))).size = grownCap w (n + l.length) cap e - (n + l.length) := by
      rw [size_zeroCells, hzs, Nat.mul_one]
    have h4 := St.toRowP (n := n + l.length) (cap := grownCap w (n + l.length) cap e) (sz := 1) isB h3 (by simp [hzl]; omega) hge hcm (by
      rw [List.all_append, List.all_append, isB_bytes]
      rw [List.all_eq_true] at hB
      simp only [Bool.and_eq_true, Bool.and_true]
      refine ⟨List.all_eq_true.2 fun x hx => hB x (List.mem_of_mem_take hx), all_zeroCells (by rw [hzc]; rfl) _⟩)
    have e1 : (cs.take n ++ bytesV l ++ (Builtin.zeroCells z.cells (grownCap w (n + l.length) cap e - (n + l.length))).toList).take ((n + l.length) * 1) = cs.take n ++ bytesV l := by
      rw [Nat.mul_one]
      refine List.take_left' ?_
      simp; omega
    rw [e1] at h4
    have e2 : (cs.take n ++ bytesV l ++ (Builtin.zeroCells z.cells (grownCap w (n + l.length) cap e - (n + l.length))).toList).toArray = (cs.take n).toArray ++ (bytesV l).toArray ++ Builtin.zeroCells z.cells (grownCap w (n + l.length) cap e - (n + l.length)) := by
      apply Array.ext'
      simp
    rw [e2] at h4
    exact St.sub h4 (.cons_cons _ (.cons _ (List.Sublist.refl _)))
theorem wl_appStrP {ops : Array Oper} {rest : List Oper} {o : Oper} {a : Act} {w0 w : World} {M : List Nat} {Q : Exit → Act → World → Prop} {s x : Operand} {t u e : TypeId} {v : Value} {n bytes : Nat} {xs : List Value} {l : List UInt8} (L1 : List HA) {L2 : List HA} (hst : St w0 M w (L1 ++ .rowP isB v e 1 n xs :: L2))
    (hop : o.op = .call { callee := .builtin .append, args := #[s, x], argTypes := #[t, u] }) (hw : Region.wanted o (yielded ops a.tmps) = true) (hs : a.eval s = v) (hx : a.eval x = .string ⟨l.toArray⟩)
    (ht : TySl P t e) (hu : TyStr P u) (he : TyE P e 1 bytes) (hz : TyZ P e [.int .u8 0]) (hn0 : 0 < n) (hb : n ≤ 1000000000 ∧ l.length ≤ 1000000000 ∧ bytes = 1)
    (h : ∀ v' w', St w0 M w' (L1 ++ .rowP isB v' e 1 (n + l.length) (xs ++ bytesV l) :: L2) → wpList P ops Q rest (a.put o.dst v') w') : wpList P ops Q (o :: rest) a w := by
  rcases hst.openP with ⟨_, h0, _⟩ | ⟨g, cap, cs, rfl, hn, hc, hl, ht2, hp, h1⟩
  · omega
  · have h1' := St.front L1 h1
    obtain ⟨v', w', hr, h2⟩ := run_appStr2 (P := P) (ty := o.type) h1' ht.out hu.out he.out hz.out (by omega) hn hp hb hc
    rw [Nat.mul_one] at ht2
    rw [ht2] at h2
    refine wl_run hw ?_ (h v' w' (St.perm h2 List.perm_middle.symm))
    unfold execOp
    simp only [hop, resolve, invoke, builtin, Sem.run_bind, Sem.run_pure, Result.andThen_ok, List.map_toArray, List.map_cons, List.map_nil, hs, hx]
    rw [hr]
    rfl
end Hp
end Go.Proofs.Ytkpkaoiafppimaa
namespace Go.Proofs.Ytkpkaoiafppimaa
set_option linter.unusedVariables false
set_option linter.unusedSimpArgs false
open Go.RowKit Hp
attribute [local irreducible] Go.Calls Go.wpList
set_option maxRecDepth 100000
set_option maxHeartbeats 8000000
theorem numB4_cells (z : Int) : [Value.int .u8 (z / 16777216 % 256), .int .u8 (z / 65536 % 256), .int .u8 (z / 256 % 256), .int .u8 (z % 256)] = bytesV (numB z 4) := by
  simp [numB, bytesV, byteAt_int]
theorem numB1_cells (z : Int) : [Value.int .u8 (z % 256)] = bytesV (numB z 1) := num1_cells z rfl
theorem numB11_cells (z y : Int) : [Value.int .u8 (z % 256), .int .u8 (y % 256)] = bytesV (numB z 1 ++ numB y 1) := by
  rw [bytesV_append, ← numB1_cells, ← numB1_cells]
  rfl
theorem four_w {w0 w : World} {M : List Nat} {R : List HA} {m : Nat} {bv : Value} {B : List UInt8} (hS : St w0 M w (.rowP isB bv 5 1 m (bytesV B) :: R)) (z : Int) (hm : m ≤ 100000) (hz : R64 z) :
    Calls Try.prog 51 #[bv, .int .i64 z] w fun e w' => ∃ v', e = .returned v' ∧ St w0 M w' (.rowP isB v' 5 1 (m + 4) (bytesV (B ++ numB z 4)) :: R) := by
  have hst := hS
  obtain ⟨hz1, hz2⟩ := hz
  clear hS
  go_enter Try.func51, Try.ntmps51
  go_wp2_with (first | go_big_skip | go_big_guard | (apply wl_bsX [.int _ _, .int _ _, .int _ _, .int _ _] [.int _ _, .int _ _, .int _ _, .int _ _] hst; rfl; rfl; exact rfl; exact rfl; infer_instance; infer_instance; rfl; rfl; rfl; intro gb w5 hst2; (rw [numB4_cells] at hst2); clear hst) | (apply wl_appP (m := 4) (ys := bytesV (numB z 4)) [_] hst2; rfl; rfl; exact rfl; exact rfl; infer_instance; infer_instance; infer_instance; infer_instance; exact (Rd.blk0 (n := 4) hst2 (by rw [Hp.length_bytesV, length_numB]) (by decide)); exact ones_bytesV _; rfl; exact isB_bytes _; (unfold maxLen; omega); intro v9 w6 hst3 _; clear hst2))
  go_ret
  refine ⟨_, rfl, ?_⟩
  rw [bytesV_append]
  exact St.drop (L1 := []) hst3
end Go.Proofs.Ytkpkaoiafppimaa
namespace Go.Proofs.Ytkpkaoiafppimaa
set_option linter.unusedVariables false
set_option linter.unusedSimpArgs false
open Go.RowKit Hp
attribute [local irreducible] Go.Calls Go.wpList
set_option maxRecDepth 100000
set_option maxHeartbeats 8000000
attribute [local go_sem ↓] heldInt heldRecs heldStr heldInts
theorem refBytes12_no (t : TC) (ar al : Option Addr) (nr cr nl cl : Nat) (xs : List (Value × RC)) (w : World) (hR : RecsIn w (.slice ar nr cr) nr xs) (hx : xs.map (·.2) = t.recs) (hb : nr ≤ 1000000) (hl : Rd w (.slice al nl cl) 1 nl (numsV t.lives)) (hnl : t.lives.length = nl) (hbl : nl ≤ 1000000) (hok : t.ok = false) :
    Calls Try.prog 23 #[.agg (tabC t (.slice ar nr cr) (.slice al nl cl)).toArray] w fun e w' => e = .returned (.tuple #[.slice none 0 0, .int .i64 2]) ∧ St w [] w' [] := by
  have hst0 := St.refl w
  have HE := hid (err_no hok)
  have HR := hid hR
  have HX := hid hx
  have HL := hid hl
  have HN := hid hnl
  clear hR hx hl hnl hok
  go_enter Try.func23, Try.ntmps23
  go_wp2_with (first | go_big_skip | go_big_guard | (refine wl_boxA hst0 rfl rfl rfl ?_; intro g1 w1 hst; clear hst0) | (refine wl_loadE rfl rfl rfl ?_; refine ⟨_, Loads.atA (tabC t (.slice ar nr cr) (.slice al nl cl)) [] hst rfl rfl, ?_⟩) | (go_at_call 27; refine (refCheck12_any t ar al nr cr nl cl xs _ (HR.out.old hst.nil) HX.out hb (Rd.old hst HL.out) HN.out hbl).mono ?_; rw [HE.out]; rintro _ w9 ⟨rfl, h4⟩; replace hst := St.call0 hst h4; clear h4))
  go_ret2
  exact ⟨rfl, hst.nil⟩
theorem refBytes12_ok (t : TC) (ar al : Option Addr) (nr cr nl cl : Nat) (xs : List (Value × RC)) (w : World) (hR : RecsIn w (.slice ar nr cr) nr xs) (hx : xs.map (·.2) = t.recs) (hl : Rd w (.slice al nl cl) 1 nl (numsV t.lives)) (hnl : t.lives.length = nl) (hok : t.ok = true) :
    Calls Try.prog 23 #[.agg (tabC t (.slice ar nr cr) (.slice al nl cl)).toArray] w fun e w' => ∃ u m, e = .returned (.tuple #[u, .int .i64 0]) ∧ m ≤ 3300 ∧ St w [] w' [.rowP isB u 5 1 m (bytesV t.bytes)] := by
  have hst0 := St.refl w
  have hbd := ok_bd hok
  have hlen : t.recs.length = nr := by rw [← hx, List.length_map, hR.len]
  have hnr : nr ≤ 16 := by rw [← hlen]; exact hbd.many
  have hnl8 : nl ≤ 8 := by rw [← hnl]; exact hbd.lives
  have HE := hid (err_yes hok)
  have y1 : IntKind.u8.wrap (nr : Int) = (nr : Int) := IntWalk.u8_in _ (by omega)
  have y2 : IntKind.u8.wrap (nl : Int) = (nl : Int) := IntWalk.u8_in _ (by omega)
  have HR := hid hR
  have HX := hid hx
  have HL := hid hl
  have HN := hid hnl
  have HB := hid hbd
  have HLN := hid hlen
  obtain ⟨T, hT⟩ : ∃ T, T = t.bytes := ⟨_, rfl⟩
  rw [← hT]
  have HT := hid hT
  clear hR hx hl hnl hok hbd hlen hT
  go_enter Try.func23, Try.ntmps23
  go_wp2_with (first | go_big_skip | go_big_guard | (refine wl_boxA hst0 rfl rfl rfl ?_; intro g1 w1 hst1; clear hst0) | (refine wl_loadE rfl rfl rfl ?_; refine ⟨_, Loads.atA (tabC t (.slice ar nr cr) (.slice al nl cl)) [] hst1 rfl rfl, ?_⟩) | (go_at_call 27; refine (refCheck12_any t ar al nr cr nl cl xs _ (HR.out.old hst1.nil) HX.out (by omega) (Rd.old hst1 HL.out) HN.out (by omega)).mono ?_; rw [HE.out]; rintro _ w9 ⟨rfl, h4⟩; have hst2 := St.call0 hst1 h4; clear h4 hst1))
  have hst : St w [] w9 (.rowP isB (.slice none 0 0) 5 1 0 (bytesV []) :: [.blk g1 30 (tabC t (.slice ar nr cr) (.slice al nl cl))]) := St.nilPQ isB 5 1 hst2
  clear hst2
  have hX := hst.drew
  clear hst
  refine wp_region_held_drew (S := (fun w' => (loadVarH 3 ⟨g1, 0, none⟩).run Try.prog w' = .ok (.int .i64 t.next) w' ∧ (loadVarH 25 ⟨g1, 1, none⟩).run Try.prog w' = .ok (.slice ar nr cr) w')) (by kernel_rfl) (by exact ⟨ldS [_] hX rfl, ldS [_] hX rfl⟩) (fun hHeld => ?_)
  refine tk 0 13 ?_
  (try simp only [Act.put, List.setIfInBounds_toArray, List.set_cons_zero, List.set_cons_succ])
  refine tk 3 16 ?_
  (try simp only [Act.put, List.setIfInBounds_toArray, List.set_cons_zero, List.set_cons_succ])
  refine tk 1 14 ?_
  (try simp only [Act.put, List.setIfInBounds_toArray, List.set_cons_zero, List.set_cons_succ])
  refine tk 4 17 ?_
  (try simp only [Act.put, List.setIfInBounds_toArray, List.set_cons_zero, List.set_cons_succ])
  refine tk 5 18 ?_
  (try simp only [Act.put, List.setIfInBounds_toArray, List.set_cons_zero, List.set_cons_succ])
  refine tk 6 19 ?_
  (try simp only [Act.put, List.setIfInBounds_toArray, List.set_cons_zero, List.set_cons_succ])
  refine wpAnyH_ready (rs := [2, 7]) (by kernel_rfl) (by simp) ?_
  refine (AllReadyH.cons (o := ⟨some 15, _, _, _, _, _⟩) rfl (fun K hK => ?_) (AllReadyH.cons (o := ⟨some 20, _, _, _, _, _⟩) rfl (fun K hK => ?_) AllReadyH.nil))
  · rw [if_pos (by rfl)]
    go_simp
    go_at_call 51
    refine (four_w hX (t.next) (by omega) HB.out.next.r64).mono ?_
    rintro _ w4 ⟨v9, rfl, h4⟩
    have hF1 := h4
    clear h4 hX
    refine hK.out _ _ ?_ (fun hHeld => ?_)
    · exact ⟨ldS [_] hF1 rfl, ldS [_] hF1 rfl⟩
    clear hK K
    (try simp only [Act.put, List.setIfInBounds_toArray, List.set_cons_zero, List.set_cons_succ])
    refine wpAnyH_ready (rs := [7]) (by kernel_rfl) (by simp) ?_
    refine (AllReadyH.cons (o := ⟨some 20, _, _, _, _, _⟩) rfl (fun K hK => ?_) AllReadyH.nil)
    rw [if_pos (by rfl)]
    refine ow_of_wl (ops := #[]) (by rfl) ?_
    apply wl_bsX [.int _ _] [.int _ _] hF1
    rfl
    rfl
    exact rfl
    exact rfl
    infer_instance
    infer_instance
    rfl
    rfl
    rfl
    intro gb w5 hF2
    (try simp only [IntKind.wrap_u8] at hF2)
    first | rw [numB1_cells] at hF2 | rw [show [Value.int .u8 ((nr : Int))] = bytesV (numB ((nr : Int)) 1) from num1_cells _ (by omega)] at hF2
    refine q0_nil ?_
    refine hK.out _ _ ?_ (fun hHeld => ?_)
    · exact ⟨ldS [_, _] hF2 rfl, ldS [_, _] hF2 rfl⟩
    clear hK K
    (try simp only [Act.put, List.setIfInBounds_toArray, List.set_cons_zero, List.set_cons_succ])
    refine wpAnyH_ready (rs := [8]) (by kernel_rfl) (by simp) ?_
    refine (AllReadyH.cons (o := ⟨some 21, _, _, _, _, _⟩) rfl (fun K hK => ?_) AllReadyH.nil)
    rw [if_pos (by rfl)]
    refine ow_of_wl (ops := #[]) (by rfl) ?_
    apply wl_appP (m := 1) (ys := bytesV (numB (nr : Int) 1)) [_] hF2
    rfl
    rfl
    exact rfl
    exact rfl
    infer_instance
    infer_instance
    infer_instance
    infer_instance
    exact (Rd.blk (off := 0) (n := 1) (c := 1) hF2 (.head _) (Nat.le_refl _) (by decide) (by rw [Hp.length_bytesV, length_numB]) (by rw [List.drop_zero, List.take_length]))
    exact ones_bytesV _
    rfl
    exact isB_bytes _
    (unfold maxLen; omega)
    intro v9 w6 hF3 _
    rw [← bytesV_append] at hF3
    refine q0_nil ?_
    refine hK.out _ _ ?_ (fun hHeld => ?_)
    · exact ⟨ldS [_, _] hF3 rfl, ldS [_, _] hF3 rfl⟩
    clear hK K
    (try simp only [Act.put, List.setIfInBounds_toArray, List.set_cons_zero, List.set_cons_succ])
    refine tk 9 4 ?_
    (try simp only [Act.put, List.setIfInBounds_toArray, List.set_cons_zero, List.set_cons_succ])
    refine wpAnyH_done (by kernel_rfl) ?_ _
    clear hHeld
    have hV0 := St.sub (L' := [_, _]) (St.front (L1 := [_, _]) (St.front (L1 := [_, _]) hF3)) (List.Sublist.cons_cons _ (List.Sublist.cons_cons _ (List.Sublist.cons _ (List.Sublist.refl _))))
    clear hF3
    go_wp2_with (first | go_big_skip | go_big_guard | fail)
    go_loopw [4, 5] (fun u i wr => ∃ (j m : Nat), j ≤ nr ∧ i = .int .i64 (j : Int) ∧ m ≤ 5 + 200 * j ∧ 5 ≤ m ∧ St w [] wr (.rowP isB u 5 1 m (bytesV ((numB t.next 4 ++ numB (nr : Int) 1) ++ ((xs.map (·.2)).take j).flatMap RC.bytes)) :: [.blk g1 30 (tabC t (.slice ar nr cr) (.slice al nl cl))])) (fun _ i _ => nr - (intOf i).toNat)
    case atStart => exact ⟨0, 0 + 4 + 1, Nat.zero_le _, rfl, by omega, by omega, by simpa using hV0⟩
    case round =>
      clear hV0
      obtain ⟨j, m, hj, rfl, hm, hm5, hst⟩ := hrel
      by_cases hlt : j < nr
      · have e1 : decide ((j : Int) < (nr : Int)) = true := decide_eq_true (by omega)
        have z1 : IntKind.i64.wrap ((j : Int) + 1) = (j : Int) + 1 := IntWalk.i64_in _ (by omega)
        obtain ⟨x, lb, lo, hxj, har, hin, hr⟩ := RecsIn.at HR.out hlt
        subst har
        have hbx := HB.out.recs x.2 (by rw [← HX.out]; exact List.mem_map_of_mem (List.mem_of_getElem? hxj))
        have hn41 := hbx.name
        have hsz : (⟨x.2.name.toArray⟩ : ByteArray).size = x.2.name.length := by simp [ByteArray.size]
        have HXJ := hid hxj
        have HIN := hid hin
        have HLR := hid hin.L
        have HL44 := hid (cellsR_len hin.L)
        have H35 := hid (PV.len (p := x.2.pv x.1) hin.L)
        have HWR := hid hr
        have HBX := hid hbx
        clear hxj hin hr hbx
        go_wp2_with (first | go_big_skip | go_big_guard | (refine wl_loadE rfl rfl rfl ?_; first | refine ⟨_, Loads.at [_] hst rfl, ?_⟩ | refine ⟨_, Loads.oldA (cs := cellsR x) hst HL44.out HWR.out, ?_⟩ | refine ⟨_, Loads.atA ((x.2.pv x.1).cells) [] hst3 H35.out (cellsR_root HLR.out), ?_⟩) | (refine wl_index rfl rfl rfl rfl hlt ?_) | (refine wl_alloc hst rfl rfl ?_; intro gx w2 hst2; clear hst) | (refine wl_storeA [] hst2 rfl rfl rfl rfl (by exact HL44.out) (cellsR_ones HIN.out) rfl ?_; intro w3 hst3; clear hst2) | (go_at_call 52; refine (refBytes_pv (x.2.pv x.1) _ (PV.In.old hst3 HIN.out.1) HBX.out.root).mono ?_; rintro _ w4 ⟨u, rfl, h4⟩; have hst4 := St.call hst3 h4; clear h4 hst3; obtain ⟨uo, uc, rfl, _, _, _⟩ := row_form hst4 (.head _)))
        have hX := hst4.drew
        clear hst4
        refine wp_region_held_drew (S := (fun w' => (loadVarH 3 ⟨gx, 0, none⟩).run Try.prog w' = .ok (.int .i64 x.2.id) w' ∧ (loadVarH 9 ⟨gx, 1, none⟩).run Try.prog w' = .ok (.string ⟨x.2.name.toArray⟩) w')) (by kernel_rfl) (by exact ⟨ldS [_] hX rfl, ldS [_] hX rfl⟩) (fun hHeld => ?_)
        refine tk 0 40 ?_
        (try simp only [Act.put, List.setIfInBounds_toArray, List.set_cons_zero, List.set_cons_succ])
        refine tk 1 41 ?_
        (try simp only [Act.put, List.setIfInBounds_toArray, List.set_cons_zero, List.set_cons_succ])
        refine tk 4 44 ?_
        (try simp only [Act.put, List.setIfInBounds_toArray, List.set_cons_zero, List.set_cons_succ])
        refine tk 2 42 ?_
        (try simp only [Act.put, List.setIfInBounds_toArray, List.set_cons_zero, List.set_cons_succ])
        refine tk 5 45 ?_
        (try simp only [Act.put, List.setIfInBounds_toArray, List.set_cons_zero, List.set_cons_succ])
        refine tk 6 46 ?_
        (try simp only [Act.put, List.setIfInBounds_toArray, List.set_cons_zero, List.set_cons_succ])
        refine tk 7 47 ?_
        (try simp only [Act.put, List.setIfInBounds_toArray, List.set_cons_zero, List.set_cons_succ])
        refine wpAnyH_ready (rs := [3, 8]) (by kernel_rfl) (by simp) ?_
        refine (AllReadyH.cons (o := ⟨some 43, _, _, _, _, _⟩) rfl (fun K hK => ?_) (AllReadyH.cons (o := ⟨some 48, _, _, _, _, _⟩) rfl (fun K hK => ?_) AllReadyH.nil))
        · rw [if_pos (by rfl)]
          go_simp
          go_at_call 51
          refine (four_w (St.front (L1 := [_, _]) hX) (x.2.id) (by omega) HBX.out.id.r64).mono ?_
          rintro _ w4 ⟨v9, rfl, h4⟩
          have hF6 := h4
          clear h4 hX
          refine hK.out _ _ ?_ (fun hHeld => ?_)
          · exact ⟨ldS [_, _] hF6 rfl, ldS [_, _] hF6 rfl⟩
          clear hK K
          (try simp only [Act.put, List.setIfInBounds_toArray, List.set_cons_zero, List.set_cons_succ])
          refine wpAnyH_ready (rs := [8]) (by kernel_rfl) (by simp) ?_
          refine (AllReadyH.cons (o := ⟨some 48, _, _, _, _, _⟩) rfl (fun K hK => ?_) AllReadyH.nil)
          rw [if_pos (by rfl)]
          refine ow_of_wl (ops := #[]) (by rfl) ?_
          apply wl_bsX [.int _ _] [.int _ _] hF6
          rfl
          rfl
          exact rfl
          exact rfl
          infer_instance
          infer_instance
          rfl
          rfl
          rfl
          intro gb w5 hF7
          (try simp only [IntKind.wrap_u8] at hF7)
          first | rw [numB1_cells] at hF7 | rw [show [Value.int .u8 ((x.2.name.length : Int))] = bytesV (numB ((x.2.name.length : Int)) 1) from num1_cells _ (by omega)] at hF7
          refine q0_nil ?_
          refine hK.out _ _ ?_ (fun hHeld => ?_)
          · exact ⟨ldS [_, _, _] hF7 rfl, ldS [_, _, _] hF7 rfl⟩
          clear hK K
          (try simp only [Act.put, List.setIfInBounds_toArray, List.set_cons_zero, List.set_cons_succ])
          refine wpAnyH_ready (rs := [9]) (by kernel_rfl) (by simp) ?_
          refine (AllReadyH.cons (o := ⟨some 49, _, _, _, _, _⟩) rfl (fun K hK => ?_) AllReadyH.nil)
          rw [if_pos (by rfl)]
          refine ow_of_wl (ops := #[]) (by rfl) ?_
          apply wl_appP (m := 1) (ys := bytesV (numB (x.2.name.length : Int) 1)) [_] hF7
          rfl
          rfl
          exact rfl
          exact rfl
          infer_instance
          infer_instance
          infer_instance
          infer_instance
          exact (Rd.blk (off := 0) (n := 1) (c := 1) hF7 (.head _) (Nat.le_refl _) (by decide) (by rw [Hp.length_bytesV, length_numB]) (by rw [List.drop_zero, List.take_length]))
          exact ones_bytesV _
          rfl
          exact isB_bytes _
          (unfold maxLen; omega)
          intro v9 w6 hF8 _
          rw [← bytesV_append] at hF8
          refine q0_nil ?_
          refine hK.out _ _ ?_ (fun hHeld => ?_)
          · exact ⟨ldS [_, _, _] hF8 rfl, ldS [_, _, _] hF8 rfl⟩
          clear hK K
          (try simp only [Act.put, List.setIfInBounds_toArray, List.set_cons_zero, List.set_cons_succ])
          refine tk 10 4 ?_
          (try simp only [Act.put, List.setIfInBounds_toArray, List.set_cons_zero, List.set_cons_succ])
          refine wpAnyH_done (by kernel_rfl) ?_ _
          clear hHeld
          go_wp2_with (first | go_big_skip | go_big_guard | (refine wl_loadE rfl rfl rfl ?_; first | refine ⟨_, Loads.at [_, _, _] hF8 rfl, ?_⟩ | refine ⟨_, Loads.at [_, _, _] hK1 rfl, ?_⟩) | (apply wl_appStrP (l := x.2.name) [_] hF8; rfl; rfl; exact rfl; exact rfl; infer_instance; infer_instance; infer_instance; infer_instance; omega; exact ⟨by omega, by omega, rfl⟩; intro v9 w6 hK1; (rw [← bytesV_append] at hK1); clear hF8) | (apply wl_bsX [.int _ _, .int _ _] [.int _ _, .int _ _] hK1; rfl; rfl; exact rfl; exact rfl; infer_instance; infer_instance; rfl; rfl; rfl; intro gb w5 hK2; (try simp only [IntKind.wrap_u8] at hK2); (rw [numB11_cells] at hK2); clear hK1) | (apply wl_appP (ys := bytesV (numB x.2.kind 1 ++ numB x.2.size 1)) [_, _] hK2; rfl; rfl; exact rfl; exact rfl; infer_instance; infer_instance; infer_instance; infer_instance; exact (Rd.blk (off := 0) (n := 2) (c := 2) hK2 (.head _) (Nat.le_refl _) (by decide) (by rw [Hp.length_bytesV, List.length_append, length_numB, length_numB]) (by rw [List.drop_zero, List.take_length])); exact ones_bytesV _; rfl; exact isB_bytes _; (unfold maxLen; omega); intro v9 w6 hK3 _; (rw [← bytesV_append] at hK3); clear hK2) | (apply wl_appP (ys := bytesV ((x.2.pv x.1).bytes)) [_, _] hK3; rfl; rfl; exact rfl; exact rfl; infer_instance; infer_instance; infer_instance; infer_instance; exact (Rd.row hK3 (.tail _ (.tail _ (.tail _ (.head _))))); exact ones_bytesV _; rfl; exact isB_bytes _; (unfold maxLen; omega); intro v9 w6 hK4 _; (rw [← bytesV_append] at hK4); clear hK3))
          have hZ := hK4.drew
          clear hK4
          refine wp_region_held_drew (S := (fun w' => (loadVarH 3 ⟨gx, 39, none⟩).run Try.prog w' = .ok (.int .i64 x.2.made) w' ∧ (loadVarH 3 ⟨gx, 40, none⟩).run Try.prog w' = .ok (.int .i64 x.2.own) w' ∧ (loadVarH 3 ⟨gx, 41, none⟩).run Try.prog w' = .ok (.int .i64 x.2.origin) w')) (by kernel_rfl) (by exact ⟨ldS [_, _, _, _] hZ (cellsR_39 HLR.out), ldS [_, _, _, _] hZ (cellsR_40 HLR.out), ldS [_, _, _, _] hZ (cellsR_41 HLR.out)⟩) (fun hHeld => ?_)
          refine tk 0 66 ?_
          (try simp only [Act.put, List.setIfInBounds_toArray, List.set_cons_zero, List.set_cons_succ])
          refine tk 1 67 ?_
          (try simp only [Act.put, List.setIfInBounds_toArray, List.set_cons_zero, List.set_cons_succ])
          refine tk 4 70 ?_
          (try simp only [Act.put, List.setIfInBounds_toArray, List.set_cons_zero, List.set_cons_succ])
          refine tk 7 73 ?_
          (try simp only [Act.put, List.setIfInBounds_toArray, List.set_cons_zero, List.set_cons_succ])
          refine tk 2 68 ?_
          (try simp only [Act.put, List.setIfInBounds_toArray, List.set_cons_zero, List.set_cons_succ])
          refine tk 5 71 ?_
          (try simp only [Act.put, List.setIfInBounds_toArray, List.set_cons_zero, List.set_cons_succ])
          refine tk 8 74 ?_
          (try simp only [Act.put, List.setIfInBounds_toArray, List.set_cons_zero, List.set_cons_succ])
          refine wpAnyH_ready (rs := [3]) (by kernel_rfl) (by simp) ?_
          refine (AllReadyH.cons (o := ⟨some 69, _, _, _, _, _⟩) rfl (fun K hK => ?_) AllReadyH.nil)
          rw [if_pos (by rfl)]
          go_simp
          go_at_call 51
          refine (four_w (St.front (L1 := [_, _]) hZ) (x.2.made) (by omega) HBX.out.made.r64).mono ?_
          rintro _ w4 ⟨v9, rfl, h4⟩
          have hF9 := h4
          clear h4 hZ
          refine hK.out _ _ ?_ (fun hHeld => ?_)
          · exact ⟨ldS [_, _, _, _] hF9 (cellsR_39 HLR.out), ldS [_, _, _, _] hF9 (cellsR_40 HLR.out), ldS [_, _, _, _] hF9 (cellsR_41 HLR.out)⟩
          clear hK K
          (try simp only [Act.put, List.setIfInBounds_toArray, List.set_cons_zero, List.set_cons_succ])
          refine wpAnyH_ready (rs := [6]) (by kernel_rfl) (by simp) ?_
          refine (AllReadyH.cons (o := ⟨some 72, _, _, _, _, _⟩) rfl (fun K hK => ?_) AllReadyH.nil)
          rw [if_pos (by rfl)]
          go_simp
          go_at_call 51
          refine (four_w hF9 (x.2.own) (by omega) HBX.out.own.r64).mono ?_
          rintro _ w4 ⟨v9, rfl, h4⟩
          have hF10 := h4
          clear h4 hF9
          refine hK.out _ _ ?_ (fun hHeld => ?_)
          · exact ⟨ldS [_, _, _, _] hF10 (cellsR_39 HLR.out), ldS [_, _, _, _] hF10 (cellsR_40 HLR.out), ldS [_, _, _, _] hF10 (cellsR_41 HLR.out)⟩
          clear hK K
          (try simp only [Act.put, List.setIfInBounds_toArray, List.set_cons_zero, List.set_cons_succ])
          refine wpAnyH_ready (rs := [9]) (by kernel_rfl) (by simp) ?_
          refine (AllReadyH.cons (o := ⟨some 75, _, _, _, _, _⟩) rfl (fun K hK => ?_) AllReadyH.nil)
          rw [if_pos (by rfl)]
          go_simp
          go_at_call 51
          refine (four_w hF10 (x.2.origin) (by omega) HBX.out.origin.r64).mono ?_
          rintro _ w4 ⟨v9, rfl, h4⟩
          have hF11 := h4
          clear h4 hF10
          refine hK.out _ _ ?_ (fun hHeld => ?_)
          · exact ⟨ldS [_, _, _, _] hF11 (cellsR_39 HLR.out), ldS [_, _, _, _] hF11 (cellsR_40 HLR.out), ldS [_, _, _, _] hF11 (cellsR_41 HLR.out)⟩
          clear hK K
          (try simp only [Act.put, List.setIfInBounds_toArray, List.set_cons_zero, List.set_cons_succ])
          refine tk 10 4 ?_
          (try simp only [Act.put, List.setIfInBounds_toArray, List.set_cons_zero, List.set_cons_succ])
          refine wpAnyH_done (by kernel_rfl) ?_ _
          clear hHeld
          go_wp2_with (first | go_big_skip | go_big_guard | (refine wl_loadE rfl rfl rfl ?_; first | refine ⟨_, Loads.at [_, _, _, _] hF11 (cellsR_42 HLR.out), ?_⟩ | refine ⟨_, Loads.at [_, _, _, _] hF11 (cellsR_43 HLR.out), ?_⟩) | (apply wl_bsX [.int _ _, .int _ _] [.int _ _, .int _ _] hF11; rfl; rfl; exact rfl; exact rfl; infer_instance; infer_instance; rfl; rfl; rfl; intro gb w5 hM1; (try simp only [IntKind.wrap_u8] at hM1); (rw [numB11_cells] at hM1); clear hF11) | (apply wl_appP (ys := bytesV (numB x.2.quota 1 ++ numB x.2.reserve 1)) [_] hM1; rfl; rfl; exact rfl; exact rfl; infer_instance; infer_instance; infer_instance; infer_instance; exact (Rd.blk (off := 0) (n := 2) (c := 2) hM1 (.head _) (Nat.le_refl _) (by decide) (by rw [Hp.length_bytesV, List.length_append, length_numB, length_numB]) (by rw [List.drop_zero, List.take_length])); exact ones_bytesV _; rfl; exact isB_bytes _; (unfold maxLen; omega); intro v9 w6 hM2 _; (rw [← bytesV_append] at hM2); clear hM1))
          have h5 := St.sub (L' := [_, _]) (St.front (L1 := [_, _]) (St.front (L1 := [_, _, _, _, _, _]) hM2)) (List.Sublist.cons_cons _ (List.Sublist.cons_cons _ (List.Sublist.cons _ (List.Sublist.cons _ (List.Sublist.cons _ (List.Sublist.cons _ (List.Sublist.cons _ (List.Sublist.refl _))))))))
          clear hM2
          go_wp2_with (first | go_big_skip | go_big_guard | fail)
          go_roundw
          case rel =>
            refine ⟨j + 1, ?_, by omega, rfl, ?_, ?_, ?_⟩
            rotate_left 3
            · rw [flat_step RC.bytes (map_at HXJ.out), RC.bytes]
              simp only [List.append_assoc, List.append_nil] at h5 ⊢
              exact h5
            · omega
            · omega
          case measure => simp [intOf]; omega
        · rw [if_pos (by rfl)]
          refine ow_of_wl (ops := #[]) (by rfl) ?_
          apply wl_bsX [.int _ _] [.int _ _] hX
          rfl
          rfl
          exact rfl
          exact rfl
          infer_instance
          infer_instance
          rfl
          rfl
          rfl
          intro gb w5 hF12
          (try simp only [IntKind.wrap_u8] at hF12)
          first | rw [numB1_cells] at hF12 | rw [show [Value.int .u8 ((x.2.name.length : Int))] = bytesV (numB ((x.2.name.length : Int)) 1) from num1_cells _ (by omega)] at hF12
          refine q0_nil ?_
          refine hK.out _ _ ?_ (fun hHeld => ?_)
          · exact ⟨ldS [_, _] hF12 rfl, ldS [_, _] hF12 rfl⟩
          clear hK K
          (try simp only [Act.put, List.setIfInBounds_toArray, List.set_cons_zero, List.set_cons_succ])
          refine wpAnyH_ready (rs := [3]) (by kernel_rfl) (by simp) ?_
          refine (AllReadyH.cons (o := ⟨some 43, _, _, _, _, _⟩) rfl (fun K hK => ?_) AllReadyH.nil)
          rw [if_pos (by rfl)]
          go_simp
          go_at_call 51
          refine (four_w (St.front (L1 := [_, _, _]) hF12) (x.2.id) (by omega) HBX.out.id.r64).mono ?_
          rintro _ w4 ⟨v9, rfl, h4⟩
          have hF13 := h4
          clear h4 hF12
          refine hK.out _ _ ?_ (fun hHeld => ?_)
          · exact ⟨ldS [_, _, _] hF13 rfl, ldS [_, _, _] hF13 rfl⟩
          clear hK K
          (try simp only [Act.put, List.setIfInBounds_toArray, List.set_cons_zero, List.set_cons_succ])
          refine wpAnyH_ready (rs := [9]) (by kernel_rfl) (by simp) ?_
          refine (AllReadyH.cons (o := ⟨some 49, _, _, _, _, _⟩) rfl (fun K hK => ?_) AllReadyH.nil)
          rw [if_pos (by rfl)]
          refine ow_of_wl (ops := #[]) (by rfl) ?_
          apply wl_appP (m := 1) (ys := bytesV (numB (x.2.name.length : Int) 1)) [] hF13
          rfl
          rfl
          exact rfl
          exact rfl
          infer_instance
          infer_instance
          infer_instance
          infer_instance
          exact (Rd.blk (off := 0) (n := 1) (c := 1) hF13 (.tail _ (.head _)) (Nat.le_refl _) (by decide) (by rw [Hp.length_bytesV, length_numB]) (by rw [List.drop_zero, List.take_length]))
          exact ones_bytesV _
          rfl
          exact isB_bytes _
          (unfold maxLen; omega)
          intro v9 w6 hF14 _
          rw [← bytesV_append] at hF14
          refine q0_nil ?_
          refine hK.out _ _ ?_ (fun hHeld => ?_)
          · exact ⟨ldS [_, _, _] hF14 rfl, ldS [_, _, _] hF14 rfl⟩
          clear hK K
          (try simp only [Act.put, List.setIfInBounds_toArray, List.set_cons_zero, List.set_cons_succ])
          refine tk 10 4 ?_
          (try simp only [Act.put, List.setIfInBounds_toArray, List.set_cons_zero, List.set_cons_succ])
          refine wpAnyH_done (by kernel_rfl) ?_ _
          clear hHeld
          go_wp2_with (first | go_big_skip | go_big_guard | (refine wl_loadE rfl rfl rfl ?_; first | refine ⟨_, Loads.at [_, _, _] hF14 rfl, ?_⟩ | refine ⟨_, Loads.at [_, _, _] hK1 rfl, ?_⟩) | (apply wl_appStrP (l := x.2.name) [] hF14; rfl; rfl; exact rfl; exact rfl; infer_instance; infer_instance; infer_instance; infer_instance; omega; exact ⟨by omega, by omega, rfl⟩; intro v9 w6 hK1; (rw [← bytesV_append] at hK1); clear hF14) | (apply wl_bsX [.int _ _, .int _ _] [.int _ _, .int _ _] hK1; rfl; rfl; exact rfl; exact rfl; infer_instance; infer_instance; rfl; rfl; rfl; intro gb w5 hK2; (try simp only [IntKind.wrap_u8] at hK2); (rw [numB11_cells] at hK2); clear hK1) | (apply wl_appP (ys := bytesV (numB x.2.kind 1 ++ numB x.2.size 1)) [_] hK2; rfl; rfl; exact rfl; exact rfl; infer_instance; infer_instance; infer_instance; infer_instance; exact (Rd.blk (off := 0) (n := 2) (c := 2) hK2 (.head _) (Nat.le_refl _) (by decide) (by rw [Hp.length_bytesV, List.length_append, length_numB, length_numB]) (by rw [List.drop_zero, List.take_length])); exact ones_bytesV _; rfl; exact isB_bytes _; (unfold maxLen; omega); intro v9 w6 hK3 _; (rw [← bytesV_append] at hK3); clear hK2) | (apply wl_appP (ys := bytesV ((x.2.pv x.1).bytes)) [_] hK3; rfl; rfl; exact rfl; exact rfl; infer_instance; infer_instance; infer_instance; infer_instance; exact (Rd.row hK3 (.tail _ (.tail _ (.tail _ (.head _))))); exact ones_bytesV _; rfl; exact isB_bytes _; (unfold maxLen; omega); intro v9 w6 hK4 _; (rw [← bytesV_append] at hK4); clear hK3))
          have hZ := hK4.drew
          clear hK4
          refine wp_region_held_drew (S := (fun w' => (loadVarH 3 ⟨gx, 39, none⟩).run Try.prog w' = .ok (.int .i64 x.2.made) w' ∧ (loadVarH 3 ⟨gx, 40, none⟩).run Try.prog w' = .ok (.int .i64 x.2.own) w' ∧ (loadVarH 3 ⟨gx, 41, none⟩).run Try.prog w' = .ok (.int .i64 x.2.origin) w')) (by kernel_rfl) (by exact ⟨ldS [_, _, _, _] hZ (cellsR_39 HLR.out), ldS [_, _, _, _] hZ (cellsR_40 HLR.out), ldS [_, _, _, _] hZ (cellsR_41 HLR.out)⟩) (fun hHeld => ?_)
          refine tk 0 66 ?_
          (try simp only [Act.put, List.setIfInBounds_toArray, List.set_cons_zero, List.set_cons_succ])
          refine tk 1 67 ?_
          (try simp only [Act.put, List.setIfInBounds_toArray, List.set_cons_zero, List.set_cons_succ])
          refine tk 4 70 ?_
          (try simp only [Act.put, List.setIfInBounds_toArray, List.set_cons_zero, List.set_cons_succ])
          refine tk 7 73 ?_
          (try simp only [Act.put, List.setIfInBounds_toArray, List.set_cons_zero, List.set_cons_succ])
          refine tk 2 68 ?_
          (try simp only [Act.put, List.setIfInBounds_toArray, List.set_cons_zero, List.set_cons_succ])
          refine tk 5 71 ?_
          (try simp only [Act.put, List.setIfInBounds_toArray, List.set_cons_zero, List.set_cons_succ])
          refine tk 8 74 ?_
          (try simp only [Act.put, List.setIfInBounds_toArray, List.set_cons_zero, List.set_cons_succ])
          refine wpAnyH_ready (rs := [3]) (by kernel_rfl) (by simp) ?_
          refine (AllReadyH.cons (o := ⟨some 69, _, _, _, _, _⟩) rfl (fun K hK => ?_) AllReadyH.nil)
          rw [if_pos (by rfl)]
          go_simp
          go_at_call 51
          refine (four_w (St.front (L1 := [_]) hZ) (x.2.made) (by omega) HBX.out.made.r64).mono ?_
          rintro _ w4 ⟨v9, rfl, h4⟩
          have hF15 := h4
          clear h4 hZ
          refine hK.out _ _ ?_ (fun hHeld => ?_)
          · exact ⟨ldS [_, _, _, _] hF15 (cellsR_39 HLR.out), ldS [_, _, _, _] hF15 (cellsR_40 HLR.out), ldS [_, _, _, _] hF15 (cellsR_41 HLR.out)⟩
          clear hK K
          (try simp only [Act.put, List.setIfInBounds_toArray, List.set_cons_zero, List.set_cons_succ])
          refine wpAnyH_ready (rs := [6]) (by kernel_rfl) (by simp) ?_
          refine (AllReadyH.cons (o := ⟨some 72, _, _, _, _, _⟩) rfl (fun K hK => ?_) AllReadyH.nil)
          rw [if_pos (by rfl)]
          go_simp
          go_at_call 51
          refine (four_w hF15 (x.2.own) (by omega) HBX.out.own.r64).mono ?_
          rintro _ w4 ⟨v9, rfl, h4⟩
          have hF16 := h4
          clear h4 hF15
          refine hK.out _ _ ?_ (fun hHeld => ?_)
          · exact ⟨ldS [_, _, _, _] hF16 (cellsR_39 HLR.out), ldS [_, _, _, _] hF16 (cellsR_40 HLR.out), ldS [_, _, _, _] hF16 (cellsR_41 HLR.out)⟩
          clear hK K
          (try simp only [Act.put, List.setIfInBounds_toArray, List.set_cons_zero, List.set_cons_succ])
          refine wpAnyH_ready (rs := [9]) (by kernel_rfl) (by simp) ?_
          refine (AllReadyH.cons (o := ⟨some 75, _, _, _, _, _⟩) rfl (fun K hK => ?_) AllReadyH.nil)
          rw [if_pos (by rfl)]
          go_simp
          go_at_call 51
          refine (four_w hF16 (x.2.origin) (by omega) HBX.out.origin.r64).mono ?_
          rintro _ w4 ⟨v9, rfl, h4⟩
          have hF17 := h4
          clear h4 hF16
          refine hK.out _ _ ?_ (fun hHeld => ?_)
          · exact ⟨ldS [_, _, _, _] hF17 (cellsR_39 HLR.out), ldS [_, _, _, _] hF17 (cellsR_40 HLR.out), ldS [_, _, _, _] hF17 (cellsR_41 HLR.out)⟩
          clear hK K
          (try simp only [Act.put, List.setIfInBounds_toArray, List.set_cons_zero, List.set_cons_succ])
          refine tk 10 4 ?_
          (try simp only [Act.put, List.setIfInBounds_toArray, List.set_cons_zero, List.set_cons_succ])
          refine wpAnyH_done (by kernel_rfl) ?_ _
          clear hHeld
          go_wp2_with (first | go_big_skip | go_big_guard | (refine wl_loadE rfl rfl rfl ?_; first | refine ⟨_, Loads.at [_, _, _, _] hF17 (cellsR_42 HLR.out), ?_⟩ | refine ⟨_, Loads.at [_, _, _, _] hF17 (cellsR_43 HLR.out), ?_⟩) | (apply wl_bsX [.int _ _, .int _ _] [.int _ _, .int _ _] hF17; rfl; rfl; exact rfl; exact rfl; infer_instance; infer_instance; rfl; rfl; rfl; intro gb w5 hM1; (try simp only [IntKind.wrap_u8] at hM1); (rw [numB11_cells] at hM1); clear hF17) | (apply wl_appP (ys := bytesV (numB x.2.quota 1 ++ numB x.2.reserve 1)) [_] hM1; rfl; rfl; exact rfl; exact rfl; infer_instance; infer_instance; infer_instance; infer_instance; exact (Rd.blk (off := 0) (n := 2) (c := 2) hM1 (.head _) (Nat.le_refl _) (by decide) (by rw [Hp.length_bytesV, List.length_append, length_numB, length_numB]) (by rw [List.drop_zero, List.take_length])); exact ones_bytesV _; rfl; exact isB_bytes _; (unfold maxLen; omega); intro v9 w6 hM2 _; (rw [← bytesV_append] at hM2); clear hM1))
          have h5 := St.sub (L' := [_, _]) (St.front (L1 := [_, _]) (St.front (L1 := [_, _, _, _, _, _]) hM2)) (List.Sublist.cons_cons _ (List.Sublist.cons_cons _ (List.Sublist.cons _ (List.Sublist.cons _ (List.Sublist.cons _ (List.Sublist.cons _ (List.Sublist.cons _ (List.Sublist.refl _))))))))
          clear hM2
          go_wp2_with (first | go_big_skip | go_big_guard | fail)
          go_roundw
          case rel =>
            refine ⟨j + 1, ?_, by omega, rfl, ?_, ?_, ?_⟩
            rotate_left 3
            · rw [flat_step RC.bytes (map_at HXJ.out), RC.bytes]
              simp only [List.append_assoc, List.append_nil] at h5 ⊢
              exact h5
            · omega
            · omega
          case measure => simp [intOf]; omega
      · have e1 : decide ((j : Int) < (nr : Int)) = false := decide_eq_false (by omega)
        obtain rfl : j = nr := by omega
        have e9 : (xs.map (·.2)).take j = t.recs := by rw [HX.out, List.take_of_length_le (by rw [HLN.out]; omega)]
        rw [e9] at hst
        clear e9
        go_wp2_with (first | go_big_skip | go_big_guard | (refine wl_loadE rfl rfl rfl ?_; first | refine ⟨_, Loads.at [_] hst rfl, ?_⟩) | (apply wl_bsX [.int _ _, .int _ _] [.int _ _, .int _ _] hst; rfl; rfl; exact rfl; exact rfl; infer_instance; infer_instance; rfl; rfl; rfl; intro gb w5 hP1; (try simp only [IntKind.wrap_u8] at hP1); (rw [numB11_cells] at hP1); clear hst) | (apply wl_appP (ys := bytesV (numB t.kind 1 ++ numB t.dev 1)) [_] hP1; rfl; rfl; exact rfl; exact rfl; infer_instance; infer_instance; infer_instance; infer_instance; exact (Rd.blk (off := 0) (n := 2) (c := 2) hP1 (.head _) (Nat.le_refl _) (by decide) (by rw [Hp.length_bytesV, List.length_append, length_numB, length_numB]) (by rw [List.drop_zero, List.take_length])); exact ones_bytesV _; rfl; exact isB_bytes _; (unfold maxLen; omega); intro v9 w6 hP2 _; (rw [← bytesV_append] at hP2); clear hP1))
        have hX := hP2.drew
        clear hP2
        refine wp_region_held_drew (S := (fun w' => (loadVarH 3 ⟨g1, 4, none⟩).run Try.prog w' = .ok (.int .i64 t.at_) w' ∧ (loadVarH 3 ⟨g1, 5, none⟩).run Try.prog w' = .ok (.int .i64 t.txg) w')) (by kernel_rfl) (by exact ⟨ldS [_, _] hX rfl, ldS [_, _] hX rfl⟩) (fun hHeld => ?_)
        refine tk 0 96 ?_
        (try simp only [Act.put, List.setIfInBounds_toArray, List.set_cons_zero, List.set_cons_succ])
        refine tk 1 97 ?_
        (try simp only [Act.put, List.setIfInBounds_toArray, List.set_cons_zero, List.set_cons_succ])
        refine tk 5 101 ?_
        (try simp only [Act.put, List.setIfInBounds_toArray, List.set_cons_zero, List.set_cons_succ])
        refine tk 2 98 ?_
        (try simp only [Act.put, List.setIfInBounds_toArray, List.set_cons_zero, List.set_cons_succ])
        refine tk 6 102 ?_
        (try simp only [Act.put, List.setIfInBounds_toArray, List.set_cons_zero, List.set_cons_succ])
        refine tk 3 99 ?_
        (try simp only [Act.put, List.setIfInBounds_toArray, List.set_cons_zero, List.set_cons_succ])
        refine tk 7 103 ?_
        (try simp only [Act.put, List.setIfInBounds_toArray, List.set_cons_zero, List.set_cons_succ])
        refine wpAnyH_ready (rs := [4]) (by kernel_rfl) (by simp) ?_
        refine (AllReadyH.cons (o := ⟨some 100, _, _, _, _, _⟩) rfl (fun K hK => ?_) AllReadyH.nil)
        rw [if_pos (by rfl)]
        go_simp
        go_at_call 51
        refine (four_w (St.front (L1 := [_]) hX) (t.at_) (by omega) HB.out.at_.r64).mono ?_
        rintro _ w4 ⟨v9, rfl, h4⟩
        have hF4 := h4
        clear h4 hX
        refine hK.out _ _ ?_ (fun hHeld => ?_)
        · exact ⟨ldS [_, _] hF4 rfl, ldS [_, _] hF4 rfl⟩
        clear hK K
        (try simp only [Act.put, List.setIfInBounds_toArray, List.set_cons_zero, List.set_cons_succ])
        refine wpAnyH_ready (rs := [8]) (by kernel_rfl) (by simp) ?_
        refine (AllReadyH.cons (o := ⟨some 104, _, _, _, _, _⟩) rfl (fun K hK => ?_) AllReadyH.nil)
        rw [if_pos (by rfl)]
        go_simp
        go_at_call 51
        refine (four_w hF4 (t.txg) (by omega) HB.out.txg.r64).mono ?_
        rintro _ w4 ⟨v9, rfl, h4⟩
        have hF5 := h4
        clear h4 hF4
        refine hK.out _ _ ?_ (fun hHeld => ?_)
        · exact ⟨ldS [_, _] hF5 rfl, ldS [_, _] hF5 rfl⟩
        clear hK K
        (try simp only [Act.put, List.setIfInBounds_toArray, List.set_cons_zero, List.set_cons_succ])
        refine tk 9 4 ?_
        (try simp only [Act.put, List.setIfInBounds_toArray, List.set_cons_zero, List.set_cons_succ])
        refine wpAnyH_done (by kernel_rfl) ?_ _
        clear hHeld
        go_wp2_with (first | go_big_skip | go_big_guard | (refine wl_loadE rfl rfl rfl ?_; first | refine ⟨_, Loads.at [_, _] hF5 rfl, ?_⟩) | (apply wl_bsX [.int _ _] [.int _ _] hF5; rfl; rfl; exact rfl; exact rfl; infer_instance; infer_instance; rfl; rfl; rfl; intro gb w5 hQ1; (try simp only [IntKind.wrap_u8] at hQ1); (first | rw [numB1_cells] at hQ1 | rw [show [Value.int .u8 (nl : Int)] = bytesV (numB (nl : Int) 1) from num1_cells _ (by omega)] at hQ1); clear hF5) | (apply wl_appP (ys := bytesV (numB (nl : Int) 1)) [_] hQ1; rfl; rfl; exact rfl; exact rfl; infer_instance; infer_instance; infer_instance; infer_instance; exact (Rd.blk (off := 0) (n := 1) (c := 1) hQ1 (.head _) (Nat.le_refl _) (by decide) (by rw [Hp.length_bytesV, length_numB]) (by rw [List.drop_zero, List.take_length])); exact ones_bytesV _; rfl; exact isB_bytes _; (unfold maxLen; omega); intro v9 w6 hQ2 _; (rw [← bytesV_append] at hQ2); clear hQ1))
        have hV := St.sub (L' := [_, _]) (St.front (L1 := [_, _]) (St.front (L1 := [_, _, _]) hQ2)) (List.Sublist.cons_cons _ (List.Sublist.cons_cons _ (List.Sublist.cons _ (List.Sublist.cons _ (List.Sublist.refl _)))))
        clear hQ2
        go_loopw [4, 9] (fun u i wr => ∃ (k m : Nat), k ≤ nl ∧ i = .int .i64 (k : Int) ∧ m ≤ 3250 + 4 * k ∧ St w [] wr (.rowP isB u 5 1 m (bytesV ((numB t.next 4 ++ numB (t.recs.length : Int) 1 ++ t.recs.flatMap RC.bytes ++ numB t.kind 1 ++ numB t.dev 1 ++ numB t.at_ 4 ++ numB t.txg 4 ++ numB (t.lives.length : Int) 1) ++ (t.lives.take k).flatMap fun n => numB n 4)) :: [.blk g1 30 (tabC t (.slice ar j cr) (.slice al nl cl))])) (fun _ i _ => nl - (intOf i).toNat)
        case atStart => exact ⟨0, m + 2 + 4 + 4 + 1, Nat.zero_le _, rfl, by omega, by have hk : j = t.recs.length := HLN.out.symm; have hk2 : nl = t.lives.length := HN.out.symm; simpa [← hk, ← hk2] using hV⟩
        case round =>
          clear hV
          obtain ⟨k, m, hk, rfl, hm, hst⟩ := hrel
          by_cases hltk : k < nl
          · have e2 : decide ((k : Int) < (nl : Int)) = true := decide_eq_true (by omega)
            have z1 : IntKind.i64.wrap ((k : Int) + 1) = (k : Int) + 1 := IntWalk.i64_in _ (by omega)
            obtain ⟨y, hy⟩ : ∃ y, t.lives[k]? = some y := ⟨_, List.getElem?_eq_getElem (by rw [HN.out]; exact hltk)⟩
            obtain ⟨lb, lo, rfl, hr⟩ := Rd.at HL.out hltk
            have HC := hid (hr k _ (numsV_get hy))
            have HY := hid hy
            have HBY := hid (HB.out.live y (List.mem_of_getElem? hy)).r64
            clear hr hy
            go_wp2_with (first | go_big_skip | go_big_guard | (refine wl_loadE rfl rfl rfl ?_; first | refine ⟨_, Loads.at [_] hst rfl, ?_⟩ | refine ⟨_, Loads.old hst (by rw [Nat.mul_one]; exact HC.out), ?_⟩) | (refine wl_index rfl rfl rfl rfl hltk ?_) | (go_at_call 51; refine (four_w hst y (by omega) HBY.out).mono ?_; rintro _ w4 ⟨v9, rfl, h4⟩; have hst2 := h4; clear h4 hst))
            go_roundw
            case rel =>
              refine ⟨k + 1, ?_, by omega, rfl, ?_, ?_⟩
              rotate_left 2
              · rw [flat_step _ HY.out, ← List.append_assoc]
                exact hst2
              · omega
            case measure => simp [intOf]; omega
          · have e2 : decide ((k : Int) < (nl : Int)) = false := decide_eq_false (by omega)
            obtain rfl : k = nl := by omega
            have e9 : t.lives.take k = t.lives := by rw [List.take_of_length_le (by rw [HN.out]; omega)]
            rw [e9] at hst
            clear e9
            go_wp2_with (first | go_big_skip | go_big_guard | (refine wl_loadE rfl rfl rfl ?_; first | refine ⟨_, Loads.at [_] hst rfl, ?_⟩))
            go_ret2
            refine ⟨_, m, rfl, by omega, ?_⟩
            rw [HT.out]
            exact St.sub hst (.cons_cons _ (.cons _ .slnil))
  · rw [if_pos (by rfl)]
    refine ow_of_wl (ops := #[]) (by rfl) ?_
    apply wl_bsX [.int _ _] [.int _ _] hX
    rfl
    rfl
    exact rfl
    exact rfl
    infer_instance
    infer_instance
    rfl
    rfl
    rfl
    intro gb w5 hF18
    (try simp only [IntKind.wrap_u8] at hF18)
    first | rw [numB1_cells] at hF18 | rw [show [Value.int .u8 ((nr : Int))] = bytesV (numB ((nr : Int)) 1) from num1_cells _ (by omega)] at hF18
    refine q0_nil ?_
    refine hK.out _ _ ?_ (fun hHeld => ?_)
    · exact ⟨ldS [_, _] hF18 rfl, ldS [_, _] hF18 rfl⟩
    clear hK K
    (try simp only [Act.put, List.setIfInBounds_toArray, List.set_cons_zero, List.set_cons_succ])
    refine wpAnyH_ready (rs := [2]) (by kernel_rfl) (by simp) ?_
    refine (AllReadyH.cons (o := ⟨some 15, _, _, _, _, _⟩) rfl (fun K hK => ?_) AllReadyH.nil)
    rw [if_pos (by rfl)]
    go_simp
    go_at_call 51
    refine (four_w (St.front (L1 := [_]) hF18) (t.next) (by omega) HB.out.next.r64).mono ?_
    rintro _ w4 ⟨v9, rfl, h4⟩
    have hF19 := h4
    clear h4 hF18
    refine hK.out _ _ ?_ (fun hHeld => ?_)
    · exact ⟨ldS [_, _] hF19 rfl, ldS [_, _] hF19 rfl⟩
    clear hK K
    (try simp only [Act.put, List.setIfInBounds_toArray, List.set_cons_zero, List.set_cons_succ])
    refine wpAnyH_ready (rs := [8]) (by kernel_rfl) (by simp) ?_
    refine (AllReadyH.cons (o := ⟨some 21, _, _, _, _, _⟩) rfl (fun K hK => ?_) AllReadyH.nil)
    rw [if_pos (by rfl)]
    refine ow_of_wl (ops := #[]) (by rfl) ?_
    apply wl_appP (m := 1) (ys := bytesV (numB (nr : Int) 1)) [] hF19
    rfl
    rfl
    exact rfl
    exact rfl
    infer_instance
    infer_instance
    infer_instance
    infer_instance
    exact (Rd.blk (off := 0) (n := 1) (c := 1) hF19 (.tail _ (.head _)) (Nat.le_refl _) (by decide) (by rw [Hp.length_bytesV, length_numB]) (by rw [List.drop_zero, List.take_length]))
    exact ones_bytesV _
    rfl
    exact isB_bytes _
    (unfold maxLen; omega)
    intro v9 w6 hF20 _
    rw [← bytesV_append] at hF20
    refine q0_nil ?_
    refine hK.out _ _ ?_ (fun hHeld => ?_)
    · exact ⟨ldS [_, _] hF20 rfl, ldS [_, _] hF20 rfl⟩
    clear hK K
    (try simp only [Act.put, List.setIfInBounds_toArray, List.set_cons_zero, List.set_cons_succ])
    refine tk 9 4 ?_
    (try simp only [Act.put, List.setIfInBounds_toArray, List.set_cons_zero, List.set_cons_succ])
    refine wpAnyH_done (by kernel_rfl) ?_ _
    clear hHeld
    have hV0 := St.sub (L' := [_, _]) (St.front (L1 := [_]) (St.front (L1 := [_, _]) hF20)) (List.Sublist.cons_cons _ (List.Sublist.cons_cons _ (List.Sublist.cons _ (List.Sublist.refl _))))
    clear hF20
    go_wp2_with (first | go_big_skip | go_big_guard | fail)
    go_loopw [4, 5] (fun u i wr => ∃ (j m : Nat), j ≤ nr ∧ i = .int .i64 (j : Int) ∧ m ≤ 5 + 200 * j ∧ 5 ≤ m ∧ St w [] wr (.rowP isB u 5 1 m (bytesV ((numB t.next 4 ++ numB (nr : Int) 1) ++ ((xs.map (·.2)).take j).flatMap RC.bytes)) :: [.blk g1 30 (tabC t (.slice ar nr cr) (.slice al nl cl))])) (fun _ i _ => nr - (intOf i).toNat)
    case atStart => exact ⟨0, 0 + 4 + 1, Nat.zero_le _, rfl, by omega, by omega, by simpa using hV0⟩
    case round =>
      clear hV0
      obtain ⟨j, m, hj, rfl, hm, hm5, hst⟩ := hrel
      by_cases hlt : j < nr
      · have e1 : decide ((j : Int) < (nr : Int)) = true := decide_eq_true (by omega)
        have z1 : IntKind.i64.wrap ((j : Int) + 1) = (j : Int) + 1 := IntWalk.i64_in _ (by omega)
        obtain ⟨x, lb, lo, hxj, har, hin, hr⟩ := RecsIn.at HR.out hlt
        subst har
        have hbx := HB.out.recs x.2 (by rw [← HX.out]; exact List.mem_map_of_mem (List.mem_of_getElem? hxj))
        have hn41 := hbx.name
        have hsz : (⟨x.2.name.toArray⟩ : ByteArray).size = x.2.name.length := by simp [ByteArray.size]
        have HXJ := hid hxj
        have HIN := hid hin
        have HLR := hid hin.L
        have HL44 := hid (cellsR_len hin.L)
        have H35 := hid (PV.len (p := x.2.pv x.1) hin.L)
        have HWR := hid hr
        have HBX := hid hbx
        clear hxj hin hr hbx
        go_wp2_with (first | go_big_skip | go_big_guard | (refine wl_loadE rfl rfl rfl ?_; first | refine ⟨_, Loads.at [_] hst rfl, ?_⟩ | refine ⟨_, Loads.oldA (cs := cellsR x) hst HL44.out HWR.out, ?_⟩ | refine ⟨_, Loads.atA ((x.2.pv x.1).cells) [] hst3 H35.out (cellsR_root HLR.out), ?_⟩) | (refine wl_index rfl rfl rfl rfl hlt ?_) | (refine wl_alloc hst rfl rfl ?_; intro gx w2 hst2; clear hst) | (refine wl_storeA [] hst2 rfl rfl rfl rfl (by exact HL44.out) (cellsR_ones HIN.out) rfl ?_; intro w3 hst3; clear hst2) | (go_at_call 52; refine (refBytes_pv (x.2.pv x.1) _ (PV.In.old hst3 HIN.out.1) HBX.out.root).mono ?_; rintro _ w4 ⟨u, rfl, h4⟩; have hst4 := St.call hst3 h4; clear h4 hst3; obtain ⟨uo, uc, rfl, _, _, _⟩ := row_form hst4 (.head _)))
        have hX := hst4.drew
        clear hst4
        refine wp_region_held_drew (S := (fun w' => (loadVarH 3 ⟨gx, 0, none⟩).run Try.prog w' = .ok (.int .i64 x.2.id) w' ∧ (loadVarH 9 ⟨gx, 1, none⟩).run Try.prog w' = .ok (.string ⟨x.2.name.toArray⟩) w')) (by kernel_rfl) (by exact ⟨ldS [_] hX rfl, ldS [_] hX rfl⟩) (fun hHeld => ?_)
        refine tk 0 40 ?_
        (try simp only [Act.put, List.setIfInBounds_toArray, List.set_cons_zero, List.set_cons_succ])
        refine tk 1 41 ?_
        (try simp only [Act.put, List.setIfInBounds_toArray, List.set_cons_zero, List.set_cons_succ])
        refine tk 4 44 ?_
        (try simp only [Act.put, List.setIfInBounds_toArray, List.set_cons_zero, List.set_cons_succ])
        refine tk 2 42 ?_
        (try simp only [Act.put, List.setIfInBounds_toArray, List.set_cons_zero, List.set_cons_succ])
        refine tk 5 45 ?_
        (try simp only [Act.put, List.setIfInBounds_toArray, List.set_cons_zero, List.set_cons_succ])
        refine tk 6 46 ?_
        (try simp only [Act.put, List.setIfInBounds_toArray, List.set_cons_zero, List.set_cons_succ])
        refine tk 7 47 ?_
        (try simp only [Act.put, List.setIfInBounds_toArray, List.set_cons_zero, List.set_cons_succ])
        refine wpAnyH_ready (rs := [3, 8]) (by kernel_rfl) (by simp) ?_
        refine (AllReadyH.cons (o := ⟨some 43, _, _, _, _, _⟩) rfl (fun K hK => ?_) (AllReadyH.cons (o := ⟨some 48, _, _, _, _, _⟩) rfl (fun K hK => ?_) AllReadyH.nil))
        · rw [if_pos (by rfl)]
          go_simp
          go_at_call 51
          refine (four_w (St.front (L1 := [_, _]) hX) (x.2.id) (by omega) HBX.out.id.r64).mono ?_
          rintro _ w4 ⟨v9, rfl, h4⟩
          have hF23 := h4
          clear h4 hX
          refine hK.out _ _ ?_ (fun hHeld => ?_)
          · exact ⟨ldS [_, _] hF23 rfl, ldS [_, _] hF23 rfl⟩
          clear hK K
          (try simp only [Act.put, List.setIfInBounds_toArray, List.set_cons_zero, List.set_cons_succ])
          refine wpAnyH_ready (rs := [8]) (by kernel_rfl) (by simp) ?_
          refine (AllReadyH.cons (o := ⟨some 48, _, _, _, _, _⟩) rfl (fun K hK => ?_) AllReadyH.nil)
          rw [if_pos (by rfl)]
          refine ow_of_wl (ops := #[]) (by rfl) ?_
          apply wl_bsX [.int _ _] [.int _ _] hF23
          rfl
          rfl
          exact rfl
          exact rfl
          infer_instance
          infer_instance
          rfl
          rfl
          rfl
          intro gb w5 hF24
          (try simp only [IntKind.wrap_u8] at hF24)
          first | rw [numB1_cells] at hF24 | rw [show [Value.int .u8 ((x.2.name.length : Int))] = bytesV (numB ((x.2.name.length : Int)) 1) from num1_cells _ (by omega)] at hF24
          refine q0_nil ?_
          refine hK.out _ _ ?_ (fun hHeld => ?_)
          · exact ⟨ldS [_, _, _] hF24 rfl, ldS [_, _, _] hF24 rfl⟩
          clear hK K
          (try simp only [Act.put, List.setIfInBounds_toArray, List.set_cons_zero, List.set_cons_succ])
          refine wpAnyH_ready (rs := [9]) (by kernel_rfl) (by simp) ?_
          refine (AllReadyH.cons (o := ⟨some 49, _, _, _, _, _⟩) rfl (fun K hK => ?_) AllReadyH.nil)
          rw [if_pos (by rfl)]
          refine ow_of_wl (ops := #[]) (by rfl) ?_
          apply wl_appP (m := 1) (ys := bytesV (numB (x.2.name.length : Int) 1)) [_] hF24
          rfl
          rfl
          exact rfl
          exact rfl
          infer_instance
          infer_instance
          infer_instance
          infer_instance
          exact (Rd.blk (off := 0) (n := 1) (c := 1) hF24 (.head _) (Nat.le_refl _) (by decide) (by rw [Hp.length_bytesV, length_numB]) (by rw [List.drop_zero, List.take_length]))
          exact ones_bytesV _
          rfl
          exact isB_bytes _
          (unfold maxLen; omega)
          intro v9 w6 hF25 _
          rw [← bytesV_append] at hF25
          refine q0_nil ?_
          refine hK.out _ _ ?_ (fun hHeld => ?_)
          · exact ⟨ldS [_, _, _] hF25 rfl, ldS [_, _, _] hF25 rfl⟩
          clear hK K
          (try simp only [Act.put, List.setIfInBounds_toArray, List.set_cons_zero, List.set_cons_succ])
          refine tk 10 4 ?_
          (try simp only [Act.put, List.setIfInBounds_toArray, List.set_cons_zero, List.set_cons_succ])
          refine wpAnyH_done (by kernel_rfl) ?_ _
          clear hHeld
          go_wp2_with (first | go_big_skip | go_big_guard | (refine wl_loadE rfl rfl rfl ?_; first | refine ⟨_, Loads.at [_, _, _] hF25 rfl, ?_⟩ | refine ⟨_, Loads.at [_, _, _] hK1 rfl, ?_⟩) | (apply wl_appStrP (l := x.2.name) [_] hF25; rfl; rfl; exact rfl; exact rfl; infer_instance; infer_instance; infer_instance; infer_instance; omega; exact ⟨by omega, by omega, rfl⟩; intro v9 w6 hK1; (rw [← bytesV_append] at hK1); clear hF25) | (apply wl_bsX [.int _ _, .int _ _] [.int _ _, .int _ _] hK1; rfl; rfl; exact rfl; exact rfl; infer_instance; infer_instance; rfl; rfl; rfl; intro gb w5 hK2; (try simp only [IntKind.wrap_u8] at hK2); (rw [numB11_cells] at hK2); clear hK1) | (apply wl_appP (ys := bytesV (numB x.2.kind 1 ++ numB x.2.size 1)) [_, _] hK2; rfl; rfl; exact rfl; exact rfl; infer_instance; infer_instance; infer_instance; infer_instance; exact (Rd.blk (off := 0) (n := 2) (c := 2) hK2 (.head _) (Nat.le_refl _) (by decide) (by rw [Hp.length_bytesV, List.length_append, length_numB, length_numB]) (by rw [List.drop_zero, List.take_length])); exact ones_bytesV _; rfl; exact isB_bytes _; (unfold maxLen; omega); intro v9 w6 hK3 _; (rw [← bytesV_append] at hK3); clear hK2) | (apply wl_appP (ys := bytesV ((x.2.pv x.1).bytes)) [_, _] hK3; rfl; rfl; exact rfl; exact rfl; infer_instance; infer_instance; infer_instance; infer_instance; exact (Rd.row hK3 (.tail _ (.tail _ (.tail _ (.head _))))); exact ones_bytesV _; rfl; exact isB_bytes _; (unfold maxLen; omega); intro v9 w6 hK4 _; (rw [← bytesV_append] at hK4); clear hK3))
          have hZ := hK4.drew
          clear hK4
          refine wp_region_held_drew (S := (fun w' => (loadVarH 3 ⟨gx, 39, none⟩).run Try.prog w' = .ok (.int .i64 x.2.made) w' ∧ (loadVarH 3 ⟨gx, 40, none⟩).run Try.prog w' = .ok (.int .i64 x.2.own) w' ∧ (loadVarH 3 ⟨gx, 41, none⟩).run Try.prog w' = .ok (.int .i64 x.2.origin) w')) (by kernel_rfl) (by exact ⟨ldS [_, _, _, _] hZ (cellsR_39 HLR.out), ldS [_, _, _, _] hZ (cellsR_40 HLR.out), ldS [_, _, _, _] hZ (cellsR_41 HLR.out)⟩) (fun hHeld => ?_)
          refine tk 0 66 ?_
          (try simp only [Act.put, List.setIfInBounds_toArray, List.set_cons_zero, List.set_cons_succ])
          refine tk 1 67 ?_
          (try simp only [Act.put, List.setIfInBounds_toArray, List.set_cons_zero, List.set_cons_succ])
          refine tk 4 70 ?_
          (try simp only [Act.put, List.setIfInBounds_toArray, List.set_cons_zero, List.set_cons_succ])
          refine tk 7 73 ?_
          (try simp only [Act.put, List.setIfInBounds_toArray, List.set_cons_zero, List.set_cons_succ])
          refine tk 2 68 ?_
          (try simp only [Act.put, List.setIfInBounds_toArray, List.set_cons_zero, List.set_cons_succ])
          refine tk 5 71 ?_
          (try simp only [Act.put, List.setIfInBounds_toArray, List.set_cons_zero, List.set_cons_succ])
          refine tk 8 74 ?_
          (try simp only [Act.put, List.setIfInBounds_toArray, List.set_cons_zero, List.set_cons_succ])
          refine wpAnyH_ready (rs := [3]) (by kernel_rfl) (by simp) ?_
          refine (AllReadyH.cons (o := ⟨some 69, _, _, _, _, _⟩) rfl (fun K hK => ?_) AllReadyH.nil)
          rw [if_pos (by rfl)]
          go_simp
          go_at_call 51
          refine (four_w (St.front (L1 := [_, _]) hZ) (x.2.made) (by omega) HBX.out.made.r64).mono ?_
          rintro _ w4 ⟨v9, rfl, h4⟩
          have hF26 := h4
          clear h4 hZ
          refine hK.out _ _ ?_ (fun hHeld => ?_)
          · exact ⟨ldS [_, _, _, _] hF26 (cellsR_39 HLR.out), ldS [_, _, _, _] hF26 (cellsR_40 HLR.out), ldS [_, _, _, _] hF26 (cellsR_41 HLR.out)⟩
          clear hK K
          (try simp only [Act.put, List.setIfInBounds_toArray, List.set_cons_zero, List.set_cons_succ])
          refine wpAnyH_ready (rs := [6]) (by kernel_rfl) (by simp) ?_
          refine (AllReadyH.cons (o := ⟨some 72, _, _, _, _, _⟩) rfl (fun K hK => ?_) AllReadyH.nil)
          rw [if_pos (by rfl)]
          go_simp
          go_at_call 51
          refine (four_w hF26 (x.2.own) (by omega) HBX.out.own.r64).mono ?_
          rintro _ w4 ⟨v9, rfl, h4⟩
          have hF27 := h4
          clear h4 hF26
          refine hK.out _ _ ?_ (fun hHeld => ?_)
          · exact ⟨ldS [_, _, _, _] hF27 (cellsR_39 HLR.out), ldS [_, _, _, _] hF27 (cellsR_40 HLR.out), ldS [_, _, _, _] hF27 (cellsR_41 HLR.out)⟩
          clear hK K
          (try simp only [Act.put, List.setIfInBounds_toArray, List.set_cons_zero, List.set_cons_succ])
          refine wpAnyH_ready (rs := [9]) (by kernel_rfl) (by simp) ?_
          refine (AllReadyH.cons (o := ⟨some 75, _, _, _, _, _⟩) rfl (fun K hK => ?_) AllReadyH.nil)
          rw [if_pos (by rfl)]
          go_simp
          go_at_call 51
          refine (four_w hF27 (x.2.origin) (by omega) HBX.out.origin.r64).mono ?_
          rintro _ w4 ⟨v9, rfl, h4⟩
          have hF28 := h4
          clear h4 hF27
          refine hK.out _ _ ?_ (fun hHeld => ?_)
          · exact ⟨ldS [_, _, _, _] hF28 (cellsR_39 HLR.out), ldS [_, _, _, _] hF28 (cellsR_40 HLR.out), ldS [_, _, _, _] hF28 (cellsR_41 HLR.out)⟩
          clear hK K
          (try simp only [Act.put, List.setIfInBounds_toArray, List.set_cons_zero, List.set_cons_succ])
          refine tk 10 4 ?_
          (try simp only [Act.put, List.setIfInBounds_toArray, List.set_cons_zero, List.set_cons_succ])
          refine wpAnyH_done (by kernel_rfl) ?_ _
          clear hHeld
          go_wp2_with (first | go_big_skip | go_big_guard | (refine wl_loadE rfl rfl rfl ?_; first | refine ⟨_, Loads.at [_, _, _, _] hF28 (cellsR_42 HLR.out), ?_⟩ | refine ⟨_, Loads.at [_, _, _, _] hF28 (cellsR_43 HLR.out), ?_⟩) | (apply wl_bsX [.int _ _, .int _ _] [.int _ _, .int _ _] hF28; rfl; rfl; exact rfl; exact rfl; infer_instance; infer_instance; rfl; rfl; rfl; intro gb w5 hM1; (try simp only [IntKind.wrap_u8] at hM1); (rw [numB11_cells] at hM1); clear hF28) | (apply wl_appP (ys := bytesV (numB x.2.quota 1 ++ numB x.2.reserve 1)) [_] hM1; rfl; rfl; exact rfl; exact rfl; infer_instance; infer_instance; infer_instance; infer_instance; exact (Rd.blk (off := 0) (n := 2) (c := 2) hM1 (.head _) (Nat.le_refl _) (by decide) (by rw [Hp.length_bytesV, List.length_append, length_numB, length_numB]) (by rw [List.drop_zero, List.take_length])); exact ones_bytesV _; rfl; exact isB_bytes _; (unfold maxLen; omega); intro v9 w6 hM2 _; (rw [← bytesV_append] at hM2); clear hM1))
          have h5 := St.sub (L' := [_, _]) (St.front (L1 := [_, _]) (St.front (L1 := [_, _, _, _, _, _]) hM2)) (List.Sublist.cons_cons _ (List.Sublist.cons_cons _ (List.Sublist.cons _ (List.Sublist.cons _ (List.Sublist.cons _ (List.Sublist.cons _ (List.Sublist.cons _ (List.Sublist.refl _))))))))
          clear hM2
          go_wp2_with (first | go_big_skip | go_big_guard | fail)
          go_roundw
          case rel =>
            refine ⟨j + 1, ?_, by omega, rfl, ?_, ?_, ?_⟩
            rotate_left 3
            · rw [flat_step RC.bytes (map_at HXJ.out), RC.bytes]
              simp only [List.append_assoc, List.append_nil] at h5 ⊢
              exact h5
            · omega
            · omega
          case measure => simp [intOf]; omega
        · rw [if_pos (by rfl)]
          refine ow_of_wl (ops := #[]) (by rfl) ?_
          apply wl_bsX [.int _ _] [.int _ _] hX
          rfl
          rfl
          exact rfl
          exact rfl
          infer_instance
          infer_instance
          rfl
          rfl
          rfl
          intro gb w5 hF29
          (try simp only [IntKind.wrap_u8] at hF29)
          first | rw [numB1_cells] at hF29 | rw [show [Value.int .u8 ((x.2.name.length : Int))] = bytesV (numB ((x.2.name.length : Int)) 1) from num1_cells _ (by omega)] at hF29
          refine q0_nil ?_
          refine hK.out _ _ ?_ (fun hHeld => ?_)
          · exact ⟨ldS [_, _] hF29 rfl, ldS [_, _] hF29 rfl⟩
          clear hK K
          (try simp only [Act.put, List.setIfInBounds_toArray, List.set_cons_zero, List.set_cons_succ])
          refine wpAnyH_ready (rs := [3]) (by kernel_rfl) (by simp) ?_
          refine (AllReadyH.cons (o := ⟨some 43, _, _, _, _, _⟩) rfl (fun K hK => ?_) AllReadyH.nil)
          rw [if_pos (by rfl)]
          go_simp
          go_at_call 51
          refine (four_w (St.front (L1 := [_, _, _]) hF29) (x.2.id) (by omega) HBX.out.id.r64).mono ?_
          rintro _ w4 ⟨v9, rfl, h4⟩
          have hF30 := h4
          clear h4 hF29
          refine hK.out _ _ ?_ (fun hHeld => ?_)
          · exact ⟨ldS [_, _, _] hF30 rfl, ldS [_, _, _] hF30 rfl⟩
          clear hK K
          (try simp only [Act.put, List.setIfInBounds_toArray, List.set_cons_zero, List.set_cons_succ])
          refine wpAnyH_ready (rs := [9]) (by kernel_rfl) (by simp) ?_
          refine (AllReadyH.cons (o := ⟨some 49, _, _, _, _, _⟩) rfl (fun K hK => ?_) AllReadyH.nil)
          rw [if_pos (by rfl)]
          refine ow_of_wl (ops := #[]) (by rfl) ?_
          apply wl_appP (m := 1) (ys := bytesV (numB (x.2.name.length : Int) 1)) [] hF30
          rfl
          rfl
          exact rfl
          exact rfl
          infer_instance
          infer_instance
          infer_instance
          infer_instance
          exact (Rd.blk (off := 0) (n := 1) (c := 1) hF30 (.tail _ (.head _)) (Nat.le_refl _) (by decide) (by rw [Hp.length_bytesV, length_numB]) (by rw [List.drop_zero, List.take_length]))
          exact ones_bytesV _
          rfl
          exact isB_bytes _
          (unfold maxLen; omega)
          intro v9 w6 hF31 _
          rw [← bytesV_append] at hF31
          refine q0_nil ?_
          refine hK.out _ _ ?_ (fun hHeld => ?_)
          · exact ⟨ldS [_, _, _] hF31 rfl, ldS [_, _, _] hF31 rfl⟩
          clear hK K
          (try simp only [Act.put, List.setIfInBounds_toArray, List.set_cons_zero, List.set_cons_succ])
          refine tk 10 4 ?_
          (try simp only [Act.put, List.setIfInBounds_toArray, List.set_cons_zero, List.set_cons_succ])
          refine wpAnyH_done (by kernel_rfl) ?_ _
          clear hHeld
          go_wp2_with (first | go_big_skip | go_big_guard | (refine wl_loadE rfl rfl rfl ?_; first | refine ⟨_, Loads.at [_, _, _] hF31 rfl, ?_⟩ | refine ⟨_, Loads.at [_, _, _] hK1 rfl, ?_⟩) | (apply wl_appStrP (l := x.2.name) [] hF31; rfl; rfl; exact rfl; exact rfl; infer_instance; infer_instance; infer_instance; infer_instance; omega; exact ⟨by omega, by omega, rfl⟩; intro v9 w6 hK1; (rw [← bytesV_append] at hK1); clear hF31) | (apply wl_bsX [.int _ _, .int _ _] [.int _ _, .int _ _] hK1; rfl; rfl; exact rfl; exact rfl; infer_instance; infer_instance; rfl; rfl; rfl; intro gb w5 hK2; (try simp only [IntKind.wrap_u8] at hK2); (rw [numB11_cells] at hK2); clear hK1) | (apply wl_appP (ys := bytesV (numB x.2.kind 1 ++ numB x.2.size 1)) [_] hK2; rfl; rfl; exact rfl; exact rfl; infer_instance; infer_instance; infer_instance; infer_instance; exact (Rd.blk (off := 0) (n := 2) (c := 2) hK2 (.head _) (Nat.le_refl _) (by decide) (by rw [Hp.length_bytesV, List.length_append, length_numB, length_numB]) (by rw [List.drop_zero, List.take_length])); exact ones_bytesV _; rfl; exact isB_bytes _; (unfold maxLen; omega); intro v9 w6 hK3 _; (rw [← bytesV_append] at hK3); clear hK2) | (apply wl_appP (ys := bytesV ((x.2.pv x.1).bytes)) [_] hK3; rfl; rfl; exact rfl; exact rfl; infer_instance; infer_instance; infer_instance; infer_instance; exact (Rd.row hK3 (.tail _ (.tail _ (.tail _ (.head _))))); exact ones_bytesV _; rfl; exact isB_bytes _; (unfold maxLen; omega); intro v9 w6 hK4 _; (rw [← bytesV_append] at hK4); clear hK3))
          have hZ := hK4.drew
          clear hK4
          refine wp_region_held_drew (S := (fun w' => (loadVarH 3 ⟨gx, 39, none⟩).run Try.prog w' = .ok (.int .i64 x.2.made) w' ∧ (loadVarH 3 ⟨gx, 40, none⟩).run Try.prog w' = .ok (.int .i64 x.2.own) w' ∧ (loadVarH 3 ⟨gx, 41, none⟩).run Try.prog w' = .ok (.int .i64 x.2.origin) w')) (by kernel_rfl) (by exact ⟨ldS [_, _, _, _] hZ (cellsR_39 HLR.out), ldS [_, _, _, _] hZ (cellsR_40 HLR.out), ldS [_, _, _, _] hZ (cellsR_41 HLR.out)⟩) (fun hHeld => ?_)
          refine tk 0 66 ?_
          (try simp only [Act.put, List.setIfInBounds_toArray, List.set_cons_zero, List.set_cons_succ])
          refine tk 1 67 ?_
          (try simp only [Act.put, List.setIfInBounds_toArray, List.set_cons_zero, List.set_cons_succ])
          refine tk 4 70 ?_
          (try simp only [Act.put, List.setIfInBounds_toArray, List.set_cons_zero, List.set_cons_succ])
          refine tk 7 73 ?_
          (try simp only [Act.put, List.setIfInBounds_toArray, List.set_cons_zero, List.set_cons_succ])
          refine tk 2 68 ?_
          (try simp only [Act.put, List.setIfInBounds_toArray, List.set_cons_zero, List.set_cons_succ])
          refine tk 5 71 ?_
          (try simp only [Act.put, List.setIfInBounds_toArray, List.set_cons_zero, List.set_cons_succ])
          refine tk 8 74 ?_
          (try simp only [Act.put, List.setIfInBounds_toArray, List.set_cons_zero, List.set_cons_succ])
          refine wpAnyH_ready (rs := [3]) (by kernel_rfl) (by simp) ?_
          refine (AllReadyH.cons (o := ⟨some 69, _, _, _, _, _⟩) rfl (fun K hK => ?_) AllReadyH.nil)
          rw [if_pos (by rfl)]
          go_simp
          go_at_call 51
          refine (four_w (St.front (L1 := [_]) hZ) (x.2.made) (by omega) HBX.out.made.r64).mono ?_
          rintro _ w4 ⟨v9, rfl, h4⟩
          have hF32 := h4
          clear h4 hZ
          refine hK.out _ _ ?_ (fun hHeld => ?_)
          · exact ⟨ldS [_, _, _, _] hF32 (cellsR_39 HLR.out), ldS [_, _, _, _] hF32 (cellsR_40 HLR.out), ldS [_, _, _, _] hF32 (cellsR_41 HLR.out)⟩
          clear hK K
          (try simp only [Act.put, List.setIfInBounds_toArray, List.set_cons_zero, List.set_cons_succ])
          refine wpAnyH_ready (rs := [6]) (by kernel_rfl) (by simp) ?_
          refine (AllReadyH.cons (o := ⟨some 72, _, _, _, _, _⟩) rfl (fun K hK => ?_) AllReadyH.nil)
          rw [if_pos (by rfl)]
          go_simp
          go_at_call 51
          refine (four_w hF32 (x.2.own) (by omega) HBX.out.own.r64).mono ?_
          rintro _ w4 ⟨v9, rfl, h4⟩
          have hF33 := h4
          clear h4 hF32
          refine hK.out _ _ ?_ (fun hHeld => ?_)
          · exact ⟨ldS [_, _, _, _] hF33 (cellsR_39 HLR.out), ldS [_, _, _, _] hF33 (cellsR_40 HLR.out), ldS [_, _, _, _] hF33 (cellsR_41 HLR.out)⟩
          clear hK K
          (try simp only [Act.put, List.setIfInBounds_toArray, List.set_cons_zero, List.set_cons_succ])
          refine wpAnyH_ready (rs := [9]) (by kernel_rfl) (by simp) ?_
          refine (AllReadyH.cons (o := ⟨some 75, _, _, _, _, _⟩) rfl (fun K hK => ?_) AllReadyH.nil)
          rw [if_pos (by rfl)]
          go_simp
          go_at_call 51
          refine (four_w hF33 (x.2.origin) (by omega) HBX.out.origin.r64).mono ?_
          rintro _ w4 ⟨v9, rfl, h4⟩
          have hF34 := h4
          clear h4 hF33
          refine hK.out _ _ ?_ (fun hHeld => ?_)
          · exact ⟨ldS [_, _, _, _] hF34 (cellsR_39 HLR.out), ldS [_, _, _, _] hF34 (cellsR_40 HLR.out), ldS [_, _, _, _] hF34 (cellsR_41 HLR.out)⟩
          clear hK K
          (try simp only [Act.put, List.setIfInBounds_toArray, List.set_cons_zero, List.set_cons_succ])
          refine tk 10 4 ?_
          (try simp only [Act.put, List.setIfInBounds_toArray, List.set_cons_zero, List.set_cons_succ])
          refine wpAnyH_done (by kernel_rfl) ?_ _
          clear hHeld
          go_wp2_with (first | go_big_skip | go_big_guard | (refine wl_loadE rfl rfl rfl ?_; first | refine ⟨_, Loads.at [_, _, _, _] hF34 (cellsR_42 HLR.out), ?_⟩ | refine ⟨_, Loads.at [_, _, _, _] hF34 (cellsR_43 HLR.out), ?_⟩) | (apply wl_bsX [.int _ _, .int _ _] [.int _ _, .int _ _] hF34; rfl; rfl; exact rfl; exact rfl; infer_instance; infer_instance; rfl; rfl; rfl; intro gb w5 hM1; (try simp only [IntKind.wrap_u8] at hM1); (rw [numB11_cells] at hM1); clear hF34) | (apply wl_appP (ys := bytesV (numB x.2.quota 1 ++ numB x.2.reserve 1)) [_] hM1; rfl; rfl; exact rfl; exact rfl; infer_instance; infer_instance; infer_instance; infer_instance; exact (Rd.blk (off := 0) (n := 2) (c := 2) hM1 (.head _) (Nat.le_refl _) (by decide) (by rw [Hp.length_bytesV, List.length_append, length_numB, length_numB]) (by rw [List.drop_zero, List.take_length])); exact ones_bytesV _; rfl; exact isB_bytes _; (unfold maxLen; omega); intro v9 w6 hM2 _; (rw [← bytesV_append] at hM2); clear hM1))
          have h5 := St.sub (L' := [_, _]) (St.front (L1 := [_, _]) (St.front (L1 := [_, _, _, _, _, _]) hM2)) (List.Sublist.cons_cons _ (List.Sublist.cons_cons _ (List.Sublist.cons _ (List.Sublist.cons _ (List.Sublist.cons _ (List.Sublist.cons _ (List.Sublist.cons _ (List.Sublist.refl _))))))))
          clear hM2
          go_wp2_with (first | go_big_skip | go_big_guard | fail)
          go_roundw
          case rel =>
            refine ⟨j + 1, ?_, by omega, rfl, ?_, ?_, ?_⟩
            rotate_left 3
            · rw [flat_step RC.bytes (map_at HXJ.out), RC.bytes]
              simp only [List.append_assoc, List.append_nil] at h5 ⊢
              exact h5
            · omega
            · omega
          case measure => simp [intOf]; omega
      · have e1 : decide ((j : Int) < (nr : Int)) = false := decide_eq_false (by omega)
        obtain rfl : j = nr := by omega
        have e9 : (xs.map (·.2)).take j = t.recs := by rw [HX.out, List.take_of_length_le (by rw [HLN.out]; omega)]
        rw [e9] at hst
        clear e9
        go_wp2_with (first | go_big_skip | go_big_guard | (refine wl_loadE rfl rfl rfl ?_; first | refine ⟨_, Loads.at [_] hst rfl, ?_⟩) | (apply wl_bsX [.int _ _, .int _ _] [.int _ _, .int _ _] hst; rfl; rfl; exact rfl; exact rfl; infer_instance; infer_instance; rfl; rfl; rfl; intro gb w5 hP1; (try simp only [IntKind.wrap_u8] at hP1); (rw [numB11_cells] at hP1); clear hst) | (apply wl_appP (ys := bytesV (numB t.kind 1 ++ numB t.dev 1)) [_] hP1; rfl; rfl; exact rfl; exact rfl; infer_instance; infer_instance; infer_instance; infer_instance; exact (Rd.blk (off := 0) (n := 2) (c := 2) hP1 (.head _) (Nat.le_refl _) (by decide) (by rw [Hp.length_bytesV, List.length_append, length_numB, length_numB]) (by rw [List.drop_zero, List.take_length])); exact ones_bytesV _; rfl; exact isB_bytes _; (unfold maxLen; omega); intro v9 w6 hP2 _; (rw [← bytesV_append] at hP2); clear hP1))
        have hX := hP2.drew
        clear hP2
        refine wp_region_held_drew (S := (fun w' => (loadVarH 3 ⟨g1, 4, none⟩).run Try.prog w' = .ok (.int .i64 t.at_) w' ∧ (loadVarH 3 ⟨g1, 5, none⟩).run Try.prog w' = .ok (.int .i64 t.txg) w')) (by kernel_rfl) (by exact ⟨ldS [_, _] hX rfl, ldS [_, _] hX rfl⟩) (fun hHeld => ?_)
        refine tk 0 96 ?_
        (try simp only [Act.put, List.setIfInBounds_toArray, List.set_cons_zero, List.set_cons_succ])
        refine tk 1 97 ?_
        (try simp only [Act.put, List.setIfInBounds_toArray, List.set_cons_zero, List.set_cons_succ])
        refine tk 5 101 ?_
        (try simp only [Act.put, List.setIfInBounds_toArray, List.set_cons_zero, List.set_cons_succ])
        refine tk 2 98 ?_
        (try simp only [Act.put, List.setIfInBounds_toArray, List.set_cons_zero, List.set_cons_succ])
        refine tk 6 102 ?_
        (try simp only [Act.put, List.setIfInBounds_toArray, List.set_cons_zero, List.set_cons_succ])
        refine tk 3 99 ?_
        (try simp only [Act.put, List.setIfInBounds_toArray, List.set_cons_zero, List.set_cons_succ])
        refine tk 7 103 ?_
        (try simp only [Act.put, List.setIfInBounds_toArray, List.set_cons_zero, List.set_cons_succ])
        refine wpAnyH_ready (rs := [4]) (by kernel_rfl) (by simp) ?_
        refine (AllReadyH.cons (o := ⟨some 100, _, _, _, _, _⟩) rfl (fun K hK => ?_) AllReadyH.nil)
        rw [if_pos (by rfl)]
        go_simp
        go_at_call 51
        refine (four_w (St.front (L1 := [_]) hX) (t.at_) (by omega) HB.out.at_.r64).mono ?_
        rintro _ w4 ⟨v9, rfl, h4⟩
        have hF21 := h4
        clear h4 hX
        refine hK.out _ _ ?_ (fun hHeld => ?_)
        · exact ⟨ldS [_, _] hF21 rfl, ldS [_, _] hF21 rfl⟩
        clear hK K
        (try simp only [Act.put, List.setIfInBounds_toArray, List.set_cons_zero, List.set_cons_succ])
        refine wpAnyH_ready (rs := [8]) (by kernel_rfl) (by simp) ?_
        refine (AllReadyH.cons (o := ⟨some 104, _, _, _, _, _⟩) rfl (fun K hK => ?_) AllReadyH.nil)
        rw [if_pos (by rfl)]
        go_simp
        go_at_call 51
        refine (four_w hF21 (t.txg) (by omega) HB.out.txg.r64).mono ?_
        rintro _ w4 ⟨v9, rfl, h4⟩
        have hF22 := h4
        clear h4 hF21
        refine hK.out _ _ ?_ (fun hHeld => ?_)
        · exact ⟨ldS [_, _] hF22 rfl, ldS [_, _] hF22 rfl⟩
        clear hK K
        (try simp only [Act.put, List.setIfInBounds_toArray, List.set_cons_zero, List.set_cons_succ])
        refine tk 9 4 ?_
        (try simp only [Act.put, List.setIfInBounds_toArray, List.set_cons_zero, List.set_cons_succ])
        refine wpAnyH_done (by kernel_rfl) ?_ _
        clear hHeld
        go_wp2_with (first | go_big_skip | go_big_guard | (refine wl_loadE rfl rfl rfl ?_; first | refine ⟨_, Loads.at [_, _] hF22 rfl, ?_⟩) | (apply wl_bsX [.int _ _] [.int _ _] hF22; rfl; rfl; exact rfl; exact rfl; infer_instance; infer_instance; rfl; rfl; rfl; intro gb w5 hQ1; (try simp only [IntKind.wrap_u8] at hQ1); (first | rw [numB1_cells] at hQ1 | rw [show [Value.int .u8 (nl : Int)] = bytesV (numB (nl : Int) 1) from num1_cells _ (by omega)] at hQ1); clear hF22) | (apply wl_appP (ys := bytesV (numB (nl : Int) 1)) [_] hQ1; rfl; rfl; exact rfl; exact rfl; infer_instance; infer_instance; infer_instance; infer_instance; exact (Rd.blk (off := 0) (n := 1) (c := 1) hQ1 (.head _) (Nat.le_refl _) (by decide) (by rw [Hp.length_bytesV, length_numB]) (by rw [List.drop_zero, List.take_length])); exact ones_bytesV _; rfl; exact isB_bytes _; (unfold maxLen; omega); intro v9 w6 hQ2 _; (rw [← bytesV_append] at hQ2); clear hQ1))
        have hV := St.sub (L' := [_, _]) (St.front (L1 := [_, _]) (St.front (L1 := [_, _, _]) hQ2)) (List.Sublist.cons_cons _ (List.Sublist.cons_cons _ (List.Sublist.cons _ (List.Sublist.cons _ (List.Sublist.refl _)))))
        clear hQ2
        go_loopw [4, 9] (fun u i wr => ∃ (k m : Nat), k ≤ nl ∧ i = .int .i64 (k : Int) ∧ m ≤ 3250 + 4 * k ∧ St w [] wr (.rowP isB u 5 1 m (bytesV ((numB t.next 4 ++ numB (t.recs.length : Int) 1 ++ t.recs.flatMap RC.bytes ++ numB t.kind 1 ++ numB t.dev 1 ++ numB t.at_ 4 ++ numB t.txg 4 ++ numB (t.lives.length : Int) 1) ++ (t.lives.take k).flatMap fun n => numB n 4)) :: [.blk g1 30 (tabC t (.slice ar j cr) (.slice al nl cl))])) (fun _ i _ => nl - (intOf i).toNat)
        case atStart => exact ⟨0, m + 2 + 4 + 4 + 1, Nat.zero_le _, rfl, by omega, by have hk : j = t.recs.length := HLN.out.symm; have hk2 : nl = t.lives.length := HN.out.symm; simpa [← hk, ← hk2] using hV⟩
        case round =>
          clear hV
          obtain ⟨k, m, hk, rfl, hm, hst⟩ := hrel
          by_cases hltk : k < nl
          · have e2 : decide ((k : Int) < (nl : Int)) = true := decide_eq_true (by omega)
            have z1 : IntKind.i64.wrap ((k : Int) + 1) = (k : Int) + 1 := IntWalk.i64_in _ (by omega)
            obtain ⟨y, hy⟩ : ∃ y, t.lives[k]? = some y := ⟨_, List.getElem?_eq_getElem (by rw [HN.out]; exact hltk)⟩
            obtain ⟨lb, lo, rfl, hr⟩ := Rd.at HL.out hltk
            have HC := hid (hr k _ (numsV_get hy))
            have HY := hid hy
            have HBY := hid (HB.out.live y (List.mem_of_getElem? hy)).r64
            clear hr hy
            go_wp2_with (first | go_big_skip | go_big_guard | (refine wl_loadE rfl rfl rfl ?_; first | refine ⟨_, Loads.at [_] hst rfl, ?_⟩ | refine ⟨_, Loads.old hst (by rw [Nat.mul_one]; exact HC.out), ?_⟩) | (refine wl_index rfl rfl rfl rfl hltk ?_) | (go_at_call 51; refine (four_w hst y (by omega) HBY.out).mono ?_; rintro _ w4 ⟨v9, rfl, h4⟩; have hst2 := h4; clear h4 hst))
            go_roundw
            case rel =>
              refine ⟨k + 1, ?_, by omega, rfl, ?_, ?_⟩
              rotate_left 2
              · rw [flat_step _ HY.out, ← List.append_assoc]
                exact hst2
              · omega
            case measure => simp [intOf]; omega
          · have e2 : decide ((k : Int) < (nl : Int)) = false := decide_eq_false (by omega)
            obtain rfl : k = nl := by omega
            have e9 : t.lives.take k = t.lives := by rw [List.take_of_length_le (by rw [HN.out]; omega)]
            rw [e9] at hst
            clear e9
            go_wp2_with (first | go_big_skip | go_big_guard | (refine wl_loadE rfl rfl rfl ?_; first | refine ⟨_, Loads.at [_] hst rfl, ?_⟩))
            go_ret2
            refine ⟨_, m, rfl, by omega, ?_⟩
            rw [HT.out]
            exact St.sub hst (.cons_cons _ (.cons _ .slnil))
end Go.Proofs.Ytkpkaoiafppimaa
namespace Go.Proofs.Ytkpkaoiafppimaa
set_option linter.unusedVariables false
set_option linter.unusedSimpArgs false
open Go.RowKit Hp
attribute [local irreducible] Go.Calls
set_option maxHeartbeats 4000000
set_option maxRecDepth 100000
theorem over_blkL (g n c : Nat) (bs : List UInt8) (w : World) (hg : w.heap[g]? = some (.cells (bytesV bs).toArray 5 (0, 0))) (hc : bs.length = c) (hn : n ≤ bs.length) (hb : bs.length ≤ 9223372036854775807) :
    Calls Try.prog 30 #[.slice (some ⟨g, 0, none⟩) n c] w fun e w' => e = .returned (.tuple #[]) ∧ St w [g] w' [.blk g 5 (bytesV (overB bs))] := by
  subst hc
  exact over_blk g n bs w hg hn hb
theorem over_rowP (v : Value) (n : Nat) (xs : List Value) (w : World) (hv : w.ownsRow 0 5 1 v n xs) (hp : AllP isB w v 5) :
    Calls Try.prog 30 #[v] w fun e w' => e = .returned (.tuple #[]) ∧ St w v.ownBlock.toList w' [] := by
  have hst := St.ofRowP (p := isB) w hv hp
  rcases St.openP (L1 := []) hst with ⟨rfl, rfl, rfl, _⟩ | ⟨g, cap, cs, rfl, h1, h2, h3, _, h5, h6⟩
  · exact over_none w
  · obtain ⟨bs, rfl⟩ := isB_list h5
    rw [length_bytesV, Nat.mul_one] at h3
    subst h3
    refine (over_blk g n bs w (h6.all _ (.head _)) h1 h2).mono ?_
    rintro e w' ⟨he, hh⟩
    exact ⟨he, hh.nil⟩
end Go.Proofs.Ytkpkaoiafppimaa
namespace Go.Proofs.Ytkpkaoiafppimaa
set_option linter.unusedVariables false
set_option linter.unusedSimpArgs false
open Go.RowKit Hp
attribute [local irreducible] Go.Calls
set_option maxHeartbeats 1000000
/-- The number below n that x says. -/
def pickI (x n : Int) : Int := if n < 1 then 0 else x % n
theorem pickI_nat {x : Int} {n : Nat} (h : 0 < n) : ∃ k : Nat, k < n ∧ pickI x n = k := by
  have h1 := Int.emod_nonneg x (show (n : Int) ≠ 0 by omega)
  have h2 := Int.emod_lt_of_pos x (show (0 : Int) < n by omega)
  refine ⟨(x % n).toNat, by omega, ?_⟩
  unfold pickI
  rw [if_neg (by omega)]
  omega
theorem pick_spec (x n : Int) (w : World) (hx : -9223372036854775808 ≤ x ∧ x ≤ 9223372036854775807) (hn : -9223372036854775808 ≤ n ∧ n ≤ 9223372036854775807) :
    Calls Try.prog 31 #[.int .i64 x, .int .i64 n] w fun e w' => e = .returned (.int .i64 (pickI x n)) ∧ St w [] w' [] := by
  have hst := St.refl w
  by_cases h1 : n < 1
  · have d1 : decide (n < 1) = true := decide_eq_true h1
    have e : pickI x n = 0 := by unfold pickI; rw [if_pos h1]
    rw [e]
    clear h1 e
    go_enter Try.func31, Try.ntmps31
    go_wp2_with (first | go_big_skip | go_big_guard | fail)
    go_ret
    exact ⟨rfl, hst⟩
  · have d1 : decide (n < 1) = false := decide_eq_false h1
    obtain ⟨r, hr⟩ : ∃ r, r = Int.tmod x n := ⟨_, rfl⟩
    have q1 := Int.tmod_lt_of_pos x (show (0 : Int) < n by omega)
    have q2 := Int.lt_tmod_of_pos x (show (0 : Int) < n by omega)
    rw [← hr] at q1 q2
    have hw : IntKind.i64.wrap r = r := IntWalk.i64_in _ (by omega)
    have f1 : ∀ T, binOp .rem T (.int .i64 x) (.int .i64 n) = pure (.int .i64 r) := by
      intro T
      have hn0 : n ≠ 0 := by omega
      simp only [binOp]
      simp [Op.intDiv, hn0, ← hr, hw]
    have em : x % n = if r < 0 then r + n else r := by
      rw [hr, Int.tmod_eq_emod]
      have := Int.emod_nonneg x (show n ≠ 0 by omega)
      have := Int.emod_lt_of_pos x (show (0 : Int) < n by omega)
      split <;> (split <;> omega)
    have e : pickI x n = if r < 0 then r + n else r := by unfold pickI; rw [if_neg h1, em]
    rw [e]
    clear em e hr h1
    by_cases h2 : r < 0
    · have d2 : decide (r < 0) = true := decide_eq_true h2
      have z0 : IntKind.i64.wrap (r + n) = r + n := IntWalk.i64_in _ (by omega)
      rw [if_pos h2]
      clear h2
      go_enter Try.func31, Try.ntmps31
      go_wp2_with (first | go_big_skip | go_big_guard | fail)
      go_ret
      exact ⟨rfl, hst⟩
    · have d2 : decide (r < 0) = false := decide_eq_false h2
      rw [if_neg h2]
      clear h2
      go_enter Try.func31, Try.ntmps31
      go_wp2_with (first | go_big_skip | go_big_guard | fail)
      go_ret
      exact ⟨rfl, hst⟩
end Go.Proofs.Ytkpkaoiafppimaa

