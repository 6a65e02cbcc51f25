/- Arguments of plain data, opened: lists of bytes, lists of pairs. -/
import Derived.Test.YtifajcblbedcoaaGreatPost
import Derived.Test.YtifajcblbedcoaaGreatPtr
import Derived.Lib.SmallJoins
import Derived.Deep.SlicePairs
namespace Go.Proofs.YtifajcblbedcoaaGreat
set_option linter.unusedVariables false
set_option linter.unusedSimpArgs false
open Go.ChangeShapes Go.WideShapes Go.ChangeAt Go.RowKit Hp
theorem bytes_of_cells : ∀ (L : List Value), (∀ v ∈ L, ∃ k : Int, v = .int .u8 k ∧ 0 ≤ k ∧ k < 256) → ∃ S : List UInt8, L = bytesV S ∧ S.length = L.length
  | [], _ => ⟨[], rfl, rfl⟩
  | v :: L, h => by
    obtain ⟨S, hS, hl⟩ := bytes_of_cells L fun x hx => h x (List.mem_cons_of_mem _ hx)
    obtain ⟨k, rfl, h0, h1⟩ := h v (List.mem_cons_self)
    refine ⟨UInt8.ofNat k.toNat :: S, ?_, by simp [hl]⟩
    have : ((UInt8.ofNat k.toNat).toNat : Int) = k := by rw [UInt8.toNat_ofNat']; omega
    simp only [bytesV, List.map_cons] at hS ⊢
    rw [hS, this]
theorem addrsV_at : ∀ (l : List (Int × Int)) (k : Nat) (v : Value), (addrsV l)[k]? = some v → ∃ i x, l[i]? = some x ∧ ((k = i * 2 ∧ v = .int .i64 x.1) ∨ (k = i * 2 + 1 ∧ v = .int .i64 x.2))
  | [], k, v, h => by simp [addrsV] at h
  | x :: l, 0, v, h => by simp [addrsV] at h; exact ⟨0, x, rfl, .inl ⟨rfl, h.symm⟩⟩
  | x :: l, 1, v, h => by simp [addrsV] at h; exact ⟨0, x, rfl, .inr ⟨rfl, h.symm⟩⟩
  | x :: l, k + 2, v, h => by
    obtain ⟨i, y, hi, hk⟩ := addrsV_at l k v (by simpa [addrsV] using h)
    rcases hk with ⟨rfl, rfl⟩ | ⟨rfl, rfl⟩
    · exact ⟨i + 1, y, hi, .inl ⟨by omega, rfl⟩⟩
    · exact ⟨i + 1, y, hi, .inr ⟨by omega, rfl⟩⟩
theorem rd_pairs {w : World} {b off len cap : Nat} (f : Nat → Int × Int) (hl : len ≤ cap) (hc : cap ≤ maxLen) (h : ∀ i, i < len → w.cell? ⟨b, off + i * 2, none⟩ = some (.int .i64 (f i).1) ∧ w.cell? ⟨b, off + i * 2 + 1, none⟩ = some (.int .i64 (f i).2)) :
    Rd w (.slice (some ⟨b, off, none⟩) len cap) 2 len (addrsV ((List.range len).map f)) := by
  refine Rd.mk hl hc (by simp [length_addrsV]) ?_
  intro k v hk
  obtain ⟨i, x, hi, hx⟩ := addrsV_at _ k v hk
  have hi' : i < len := by
    have := (List.getElem?_eq_some_iff.1 hi).1
    simpa using this
  have hxi : x = f i := by
    rw [List.getElem?_map, List.getElem?_range hi'] at hi
    simpa using hi.symm
  subst hxi
  rcases hx with ⟨rfl, rfl⟩ | ⟨rfl, rfl⟩
  · exact (h i hi').1
  · exact (h i hi').2
end Go.Proofs.YtifajcblbedcoaaGreat
