import Derived.Test.YtmdfbdfijnmhkaaGreatPtrM
import Derived.Test.YtmdfbdfijnmhkaaGreatSepF
namespace Go.Proofs.YtmdfbdfijnmhkaaGreat
set_option linter.unusedVariables false
set_option linter.unusedSimpArgs false
open Go.RowKit Hp
structure PV where
  sv : Value
  l : List (Int × Int)
  b : Int
  v : Int
  S : List UInt8
def PV.cells (p : PV) : List Value := ptrCells p.sv p.b p.v p.S
def PV.In (w : World) (p : PV) : Prop := L32 p.S ∧ ∃ ao n c, p.sv = .slice ao n c ∧ Rd w (.slice ao n c) 2 n (addrsV p.l) ∧ p.l.length = n
def PV.hole (p : PV) : Bool := holeB p.l.length p.b p.v p.S
def PV.ok (p : PV) : Bool := checkB p.l p.b p.v p.S
def PV.same (p q : PV) : Bool := sameB p.l q.l p.b p.v q.b q.v p.S q.S
def PV.bytes (p : PV) : List UInt8 := bytesP p.l p.b p.v p.S
def PV.fits (p : PV) (lv : Int) : Bool := p.hole || (p.ok && decide (p.v = lv - 1))
theorem PV.In.old {w0 w : World} {L : List HA} {p : PV} (hst : St w0 [] w L) (h : p.In w0) : p.In w := by
  obtain ⟨h1, ao, n, c, h2, h3, h4⟩ := h
  exact ⟨h1, ao, n, c, h2, Rd.old hst h3, h4⟩
theorem PV.len {p : PV} (h : L32 p.S) : p.cells.length = 35 := ptr_len h _ _ _
theorem PV.ones {w : World} {p : PV} (h : p.In w) : p.cells.all (·.oneCell') = true := by
  obtain ⟨_, ao, n, c, e, _⟩ := h
  rw [PV.cells, e]
  exact ptr_ones ao n c p.b p.v p.S
structure NV where
  lv : Int
  p0 : PV
  p1 : PV
  p2 : PV
  p3 : PV
def NV.get (x : NV) : Nat → PV
  | 0 => x.p0
  | 1 => x.p1
  | 2 => x.p2
  | _ => x.p3
def NV.cells (x : NV) : List Value := .int .i64 x.lv :: (x.p0.cells ++ (x.p1.cells ++ (x.p2.cells ++ x.p3.cells)))
def NV.In (w : World) (x : NV) : Prop := ∀ k, (x.get k).In w
theorem NV.In.old {w0 w : World} {L : List HA} {x : NV} (hst : St w0 [] w L) (h : x.In w0) : x.In w := fun k => (h k).old hst
def NV.Ln (x : NV) : Prop := ∀ k, L32 (x.get k).S
theorem NV.len {x : NV} (h : x.Ln) : x.cells.length = 141 := by
  have h0 := PV.len (h 0)
  have h1 := PV.len (h 1)
  have h2 := PV.len (h 2)
  have h3 := PV.len (h 3)
  simp only [NV.get] at h0 h1 h2 h3
  simp [NV.cells, h0, h1, h2, h3]
theorem NV.at {x : NV} (h : x.Ln) {k : Nat} (hk : k < 4) : (x.cells.drop (1 + 35 * k)).take (x.get k).cells.length = (x.get k).cells := by
  have h0 : x.p0.cells.length = 35 := PV.len (h 0)
  have h1 : x.p1.cells.length = 35 := PV.len (h 1)
  have h2 : x.p2.cells.length = 35 := PV.len (h 2)
  have h3 : x.p3.cells.length = 35 := PV.len (h 3)
  unfold NV.cells
  obtain rfl | rfl | rfl | rfl : k = 0 ∨ k = 1 ∨ k = 2 ∨ k = 3 := by omega
  · simp only [NV.get, Nat.mul_zero, Nat.add_zero, List.drop_succ_cons, List.drop_zero]
    rw [List.take_left' rfl]
  · rw [show 1 + 35 * 1 = 35 + 1 from rfl, List.drop_succ_cons, List.drop_append_of_le_length (by omega), List.drop_of_length_le (by omega), List.nil_append]
    exact List.take_left' rfl
  · rw [show 1 + 35 * 2 = (35 + 35) + 1 from rfl, List.drop_succ_cons, ← List.drop_drop, List.drop_append_of_le_length (by omega), List.drop_of_length_le (l := x.p0.cells) (by omega), List.nil_append, List.drop_append_of_le_length (by omega), List.drop_of_length_le (l := x.p1.cells) (by omega), List.nil_append]
    exact List.take_left' rfl
  · rw [show 1 + 35 * 3 = (35 + (35 + 35)) + 1 from rfl, List.drop_succ_cons, ← List.drop_drop, List.drop_append_of_le_length (by omega), List.drop_of_length_le (l := x.p0.cells) (by omega), List.nil_append, show (70 : Nat) = 35 + 35 from rfl, ← List.drop_drop, List.drop_append_of_le_length (by omega), List.drop_of_length_le (l := x.p1.cells) (by omega), List.nil_append, List.drop_append_of_le_length (by omega), List.drop_of_length_le (l := x.p2.cells) (by omega), List.nil_append]
    exact List.take_of_length_le (Nat.le_refl _)
theorem NV.at' {x : NV} (h : x.Ln) {k : Nat} (hk : k < 4) : (x.cells.drop (1 + k * 35)).take (x.get k).cells.length = (x.get k).cells := by rw [Nat.mul_comm]; exact NV.at h hk
theorem NV.ones {w : World} {x : NV} (h : x.In w) : x.cells.all (·.oneCell') = true := by
  have h0 : x.p0.cells.all (·.oneCell') = true := PV.ones (h 0)
  have h1 : x.p1.cells.all (·.oneCell') = true := PV.ones (h 1)
  have h2 : x.p2.cells.all (·.oneCell') = true := PV.ones (h 2)
  have h3 : x.p3.cells.all (·.oneCell') = true := PV.ones (h 3)
  rw [NV.cells, List.all_cons, List.all_append, List.all_append, List.all_append, h0, h1, h2, h3]
  rfl
theorem NV.all (x : NV) : (x.cells.drop 0).take x.cells.length = x.cells := by simp
def NV.fitsAll (x : NV) : Bool := x.p0.fits x.lv && (x.p1.fits x.lv && (x.p2.fits x.lv && x.p3.fits x.lv))
def NV.ok (x : NV) : Bool := decide (1 ≤ x.lv ∧ x.lv ≤ 3) && x.fitsAll
def NV.empty (x : NV) : Bool := x.p0.hole && (x.p1.hole && (x.p2.hole && x.p3.hole))
def NV.same (x y : NV) : Bool := x.p0.same y.p0 && (x.p1.same y.p1 && (x.p2.same y.p2 && (x.p3.same y.p3 && decide (x.lv = y.lv))))
end Go.Proofs.YtmdfbdfijnmhkaaGreat
