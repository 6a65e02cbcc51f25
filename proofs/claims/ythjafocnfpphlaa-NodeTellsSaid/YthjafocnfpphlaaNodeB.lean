/- What is packed is unpacked, as plain data. No program in sight. -/
import Derived.Test.YthjafocnfpphlaaNodeU
import Derived.Test.YthjafocnfpphlaaPtrL
namespace Go.Proofs.Ythjafocnfpphlaa
open Go.RowKit Hp
theorem same_no {x y : NV} {j : Nat} (hj : j < 4) (h : (x.get j).same (y.get j) = false) : x.same y = false := by
  unfold NV.same
  obtain rfl | rfl | rfl | rfl : j = 0 ∨ j = 1 ∨ j = 2 ∨ j = 3 := by omega
  all_goals
    simp only [NV.get] at h
    rw [h]
    simp
theorem same_all {x y : NV} (h : ∀ j, j < 4 → (x.get j).same (y.get j) = true) : x.same y = decide (x.lv = y.lv) := by
  have h0 := h 0 (by omega)
  have h1 := h 1 (by omega)
  have h2 := h 2 (by omega)
  have h3 := h 3 (by omega)
  simp only [NV.get] at h0 h1 h2 h3
  rw [NV.same, h0, h1, h2, h3]
  rfl
theorem PV.eqd.same {p q : PV} (h : p.eqd q) : p.same q = true := by
  obtain ⟨h1, h2, h3, h4⟩ := h
  rw [PV.same, h1, h2, h3, h4]
  exact sameB_refl _ _ _ _
theorem NV.same_of {x y : NV} (hl : x.lv = y.lv) (h : ∀ j, j < 4 → (x.get j).eqd (y.get j)) : x.same y = true := by
  rw [same_all fun j hj => (h j hj).same, hl]
  simp
theorem PV.eqd.trans {p q r : PV} (h : p.eqd q) (h' : q.eqd r) : p.eqd r := ⟨h.1.trans h'.1, h.2.1.trans h'.2.1, h.2.2.1.trans h'.2.2.1, h.2.2.2.trans h'.2.2.2⟩
theorem flat4 (x : NV) : ((List.range 4).map fun j => (x.get j).bytes).flatten = x.p0.bytes ++ (x.p1.bytes ++ (x.p2.bytes ++ (x.p3.bytes ++ []))) := rfl
theorem bytes_eq (x : NV) : x.bytes = lvB x.lv :: (x.p0.bytes ++ (x.p1.bytes ++ (x.p2.bytes ++ (x.p3.bytes ++ List.replicate 67 0)))) := by
  rw [NV.bytes, packTo, flat4]
  simp
theorem uP_bytes {x : NV} (h : x.Ln) {j : Nat} (hj : j < 4) : uP x.bytes j = (x.get j).bytes := by
  have h0 : x.p0.bytes.length = 47 := PV.length_bytes (h 0)
  have h1 : x.p1.bytes.length = 47 := PV.length_bytes (h 1)
  have h2 : x.p2.bytes.length = 47 := PV.length_bytes (h 2)
  have h3 : x.p3.bytes.length = 47 := PV.length_bytes (h 3)
  rw [uP, bytes_eq]
  generalize List.replicate 67 (0 : UInt8) = r
  obtain rfl | rfl | rfl | rfl : j = 0 ∨ j = 1 ∨ j = 2 ∨ j = 3 := by omega
  all_goals simp [NV.get, List.take_append, List.drop_append, h0, h1, h2, h3, List.take_of_length_le, List.drop_of_length_le]
theorem uPV_bytes {x : NV} (h : x.Ln) (hc : x.ok = true) {j : Nat} (hj : j < 4) : (uPV x.bytes j).eqd (x.get j) := by
  have hk := (NV.ok_parts hc).2.2 j hj
  obtain ⟨k1, k2, k3, k4⟩ := read_bytes (S := (x.get j).S) hk
  unfold uPV
  rw [uP_bytes h hj]
  exact ⟨k1, k2, k3, k4⟩
theorem length_nbytes {x : NV} (h : x.Ln) : x.bytes.length = 256 := length_packTo h (Nat.le_refl 4)
theorem uNV_lv {x : NV} (hc : x.ok = true) : (uNV x.bytes).lv = x.lv := by
  obtain ⟨h1, h3, _⟩ := NV.ok_parts hc
  show (((x.bytes).getD 0 0).toNat : Int) = x.lv
  rw [bytes_eq]
  exact lvB_val h1 h3
theorem uOK_bytes {x : NV} (h : x.Ln) (hc : x.ok = true) : uOK x.bytes = true := by
  have hrd : uRd x.bytes = true := uRd_at.2 fun j hj => by
    rw [uP_bytes h hj]
    exact rOK_bytes ((NV.ok_parts hc).2.2 j hj) (h j)
  have he := NV.eqd (x := uNV x.bytes) (y := x) (uNV_lv hc) (fun j hj => by
    have := uPV_bytes h hc hj
    obtain rfl | rfl | rfl | rfl : j = 0 ∨ j = 1 ∨ j = 2 ∨ j = 3 := by omega
    all_goals exact this)
  rw [uOK, hrd, he.1, he.2, hc, length_nbytes h]
  simp
theorem uOK_parts {bs : List UInt8} (h : uOK bs = true) : bs.length = 256 ∧ uRd bs = true ∧ (uNV bs).ok = true ∧ ((uNV bs).bytes == bs) = true := by
  simp only [uOK, Bool.and_eq_true, decide_eq_true_eq] at h
  exact h
end Go.Proofs.Ythjafocnfpphlaa
