import Derived.Test.YtifajcblbedcoaaGreatSepY
namespace Go.Proofs.YtifajcblbedcoaaGreat
set_option linter.unusedVariables false
set_option linter.unusedSimpArgs false
open Go.RowKit
theorem extract_l (l : List UInt8) (i j : Nat) : (⟨l.toArray⟩ : ByteArray).extract i j = ⟨((l.take j).drop i).toArray⟩ := by
  apply ByteArray.ext
  simp only [ByteArray.data_extract]
  apply Array.ext'
  simp [List.extract_eq_take_drop, List.drop_take]
theorem append_l (l k : List UInt8) : (⟨l.toArray⟩ : ByteArray) ++ ⟨k.toArray⟩ = ⟨(l ++ k).toArray⟩ := by
  apply ByteArray.ext
  simp
theorem size_l (l : List UInt8) : (⟨l.toArray⟩ : ByteArray).size = l.length := rfl
theorem tup2 {a b a' b' : Value} (h1 : a = a') (h2 : b = b') : Ending.returned (.tuple #[a, b]) = .returned (.tuple #[a', b']) := by rw [h1, h2]
theorem tup3 {a b c a' b' c' : Value} (h1 : a = a') (h2 : b = b') (h3 : c = c') : Ending.returned (.tuple #[a, b, c]) = .returned (.tuple #[a', b', c']) := by rw [h1, h2, h3]
theorem ret_boolv {a b : Bool} (h : a = b) : Ending.returned (.bool a) = .returned (.bool b) := by rw [h]
theorem ret_intv {a b : Int} (h : a = b) : Ending.returned (.int .i64 a) = .returned (.int .i64 b) := by rw [h]
namespace Hp
theorem wl_strIx {P : Program} {ops : Array Oper} {rest : List Oper} {o : Oper} {a : Act} {w : World} {Q : Exit → Act → World → Prop} {T : TypeId} {x y : Operand} {l : List UInt8} {k : Nat}
    (hop : o.op = .index T x y) (hw : Region.wanted o (yielded ops a.tmps) = true) (hx : a.eval x = .string ⟨l.toArray⟩) (hy : a.eval y = .int .i64 k) [ht : TyStr P T] (hk : k < l.length)
    (h : ∀ c : UInt8, Hid (l.getD k 0 = c) → wpList P ops Q rest (a.put o.dst (.int .u8 c.toNat)) w) : wpList P ops Q (o :: rest) a w := by
  refine wl_run hw ?_ (h (l.getD k 0) (hid rfl))
  unfold execOp
  have hb : (0 : Int) ≤ (k : Int) ∧ (k : Int) < ((⟨l.toArray⟩ : ByteArray).size : Int) := by rw [size_l]; omega
  simp only [hop, hx, hy, Sem.run_bind, run_index_string _ _ _ _ _ ht.out, dif_pos hb, Result.andThen_ok, Sem.run_pure]
  congr 4
  simp [List.getD, hk, ByteArray.getElem_eq_getElem_data]
end Hp
end Go.Proofs.YtifajcblbedcoaaGreat
